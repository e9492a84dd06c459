/-
  Walks of copseref21's readers.
-/
import Derived.Test.YtfbodloidogliaaBinN
namespace Go.Proofs.Ytfbodloidogliaa
open Go.RowKit

/-- A reader by value. -/
def rdv (v : Value) (a e : Int) : Value := .agg #[v, .int .i64 a, .int .i64 e]

theorem rfail_any (v : Value) (ad : Option Addr) (n c : Nat) (hv : v = .slice ad n c) (a e0 x : Int) (w : World) :
    Calls Try.prog 106 #[.agg #[v, .int .i64 a, .int .i64 e0], .int .i64 x] w fun e w' => e = .returned (.agg #[v, .int .i64 a, .int .i64 x]) ∧ Below w.heap.size w w' := by
  subst hv
  go_enter Try.func106, Try.ntmps106
  go_wp2
  refine bodyPost_ret (v := .agg #[.slice ad n c, .int .i64 a, .int .i64 x]) (by simp [results, Try.results106, go_sem]) rfl ⟨rfl, ?_⟩
  (repeat (first | with_reducible exact Below.refl _ _ | ((with_reducible refine Below.setCell ?_ ?_ _); rotate_left; (focus (first | omega | (simp; done) | (simp; omega)))) | ((with_reducible refine Below.alloc ?_ ?_ _); rotate_left; (focus (first | omega | (simp; done) | (simp; omega)))) | (with_reducible refine Below.drew ?_) | (with_reducible refine below_drewN ?_ _)))
/-- What a function that reads a number from a reader by value tells. -/
def RefU (w : World) (v : Value) (r : Nat × Nat × Int) (e : Ending) (w' : World) : Prop := e = .returned (.tuple #[.agg #[v, .int .i64 r.2.1, .int .i64 r.2.2], .int .u64 r.1]) ∧ Below w.heap.size w w'

set_option maxRecDepth 100000 in
theorem rReadU_dead (ad : Option Addr) (n c : Nat) (a : Nat) (e0 : Int) (he : e0 ≠ 0) (w : World) :
    Calls Try.prog 97 #[.agg #[.slice ad n c, .int .i64 a, .int .i64 e0]] w fun e w' => RefU w (.slice ad n c) (0, a, e0) e w' := by
  have hne : (e0 != 0) = true := by simpa using he
  clear he
  go_enter Try.func97, Try.ntmps97
  go_wp2
  refine bodyPost_ret (v := .tuple #[.agg #[.slice ad n c, .int .i64 a, .int .i64 e0], .int .u64 0]) (by simp [results, Try.results97, go_sem]) rfl ⟨rfl, ?_⟩
  (repeat (first | with_reducible exact Below.refl _ _ | ((with_reducible refine Below.setCell ?_ ?_ _); rotate_left; (focus (first | omega | (simp; done) | (simp; omega)))) | ((with_reducible refine Below.alloc ?_ ?_ _); rotate_left; (focus (first | omega | (simp; done) | (simp; omega)))) | (with_reducible refine Below.drew ?_) | (with_reducible refine below_drewN ?_ _)))

set_option maxRecDepth 100000 in
set_option maxHeartbeats 2000000 in
theorem rReadU_any (v : Value) (l : List Int) (a : Nat) (w : World) (h : Ints .u8 w v l) (hb : AllB l) (ha : a ≤ l.length) (hl : l.length ≤ 100000) :
    Calls Try.prog 97 #[.agg #[v, .int .i64 a, .int .i64 0]] w fun e w' => RefU w v (rdU l a) e w' := by
  have HI := Lib.hid h
  obtain ⟨ad, c, rfl⟩ := h.shape
  clear h
  cases hf : l[a]? with
  | none =>
    have hr : rdU l a = (0, a, 210) := by unfold rdU; rw [hf]
    rw [hr]
    have hal : (l.length : Int) ≤ a := by
      rcases Nat.lt_or_ge a l.length with hlt | hge
      · rw [List.getElem?_eq_getElem hlt] at hf; cases hf
      · omega
    clear hr hf
    go_enter Try.func97, Try.ntmps97
    go_wp2_with (go_at_call 106; refine (rfail_any _ ad l.length c rfl a 0 210 _).mono ?_; rintro e w1 ⟨rfl, hbw⟩; have c0_0 := hbw.cell (p := ⟨w.heap.size, 0, none⟩) (by first | omega | (simp <;> omega)); have f0_0 := hbw.frozen (p := ⟨w.heap.size, 0, none⟩) (by first | omega | (simp <;> omega)); have c0_1 := hbw.cell (p := ⟨w.heap.size, 1, none⟩) (by first | omega | (simp <;> omega)); have f0_1 := hbw.frozen (p := ⟨w.heap.size, 1, none⟩) (by first | omega | (simp <;> omega)); have c0_2 := hbw.cell (p := ⟨w.heap.size, 2, none⟩) (by first | omega | (simp <;> omega)); have f0_2 := hbw.frozen (p := ⟨w.heap.size, 2, none⟩) (by first | omega | (simp <;> omega)); have c1_0 := hbw.cell (p := ⟨w.heap.size + 1, 0, none⟩) (by first | omega | (simp <;> omega)); have f1_0 := hbw.frozen (p := ⟨w.heap.size + 1, 0, none⟩) (by first | omega | (simp <;> omega)); have c1_1 := hbw.cell (p := ⟨w.heap.size + 1, 1, none⟩) (by first | omega | (simp <;> omega)); have f1_1 := hbw.frozen (p := ⟨w.heap.size + 1, 1, none⟩) (by first | omega | (simp <;> omega)); have c1_2 := hbw.cell (p := ⟨w.heap.size + 1, 2, none⟩) (by first | omega | (simp <;> omega)); have f1_2 := hbw.frozen (p := ⟨w.heap.size + 1, 2, none⟩) (by first | omega | (simp <;> omega)))
    have hz : w.heap.size + 1 < w1.heap.size := by have := hbw.size; simp at this; omega
    refine bodyPost_ret (v := .tuple #[.agg #[.slice ad l.length c, .int .i64 a, .int .i64 210], .int .u64 0]) (by simp [results, Try.results97, go_sem, c1_0, c1_1, c1_2]) rfl ⟨rfl, ?_⟩
    (repeat (first | with_reducible exact Below.refl _ _ | ((with_reducible refine Below.setCell ?_ ?_ _); rotate_left; (focus (first | omega | (simp; done) | (simp; omega)))) | ((with_reducible refine Below.alloc ?_ ?_ _); rotate_left; (focus (first | omega | (simp; done) | (simp; omega)))) | (with_reducible refine Below.drew ?_) | (with_reducible refine below_drewN ?_ _) | ((with_reducible refine Below.trans ?_ (Below.mono hbw ?_)); rotate_left; (focus (first | omega | (simp; done) | (simp; omega))))))
  | some f =>
    have hal : a < l.length := (List.getElem?_eq_some_iff.1 hf).1
    have hfb := hb f (List.mem_of_getElem? hf)
    obtain ⟨b, o, rfl, hcell⟩ : ∃ b o, ad = some ⟨b, o, none⟩ ∧ w.cell? ⟨b, o + a, none⟩ = some (.int .u8 f) ∧ b < w.heap.size := by
      obtain ⟨_, _, e0, _, _, _, h4⟩ := HI.out
      obtain ⟨b, o, e1, hlt, hc⟩ := h4 a f hf
      injection e0 with e0 _ _
      exact ⟨b, o, e0.trans e1, hc, hlt⟩
    obtain ⟨hcell, hblt⟩ := hcell
    by_cases hs : f < 240
    · have hr : rdU l a = (f.toNat, a + 1, 0) := by unfold rdU; rw [hf]; simp only [if_pos hs]
      rw [hr]
      clear hr hf
      obtain ⟨k, rfl⟩ := Int.eq_ofNat_of_zero_le hfb.1
      rw [Int.toNat_natCast]
      go_enter Try.func97, Try.ntmps97
      go_wp2
      refine bodyPost_ret (v := .tuple #[.agg #[.slice (some ⟨b, o, none⟩) l.length c, .int .i64 ((a : Int) + 1), .int .i64 0], .int .u64 k]) (by simp [results, Try.results97, go_sem]) rfl ⟨rfl, ?_⟩
      (repeat (first | with_reducible exact Below.refl _ _ | ((with_reducible refine Below.setCell ?_ ?_ _); rotate_left; (focus (first | omega | (simp; done) | (simp; omega)))) | ((with_reducible refine Below.alloc ?_ ?_ _); rotate_left; (focus (first | omega | (simp; done) | (simp; omega)))) | (with_reducible refine Below.drew ?_) | (with_reducible refine below_drewN ?_ _)))
    · obtain ⟨k, rfl⟩ := Int.eq_ofNat_of_zero_le hfb.1
      by_cases h247 : (247 : Int) < k
      · have hr : rdU l a = (0, a, 211) := by unfold rdU; rw [hf]; simp only [if_neg hs, if_pos h247]
        rw [hr]
        clear hr hf
        go_enter Try.func97, Try.ntmps97
        go_wp2_with (go_at_call 106; refine (rfail_any _ (some ⟨b, o, none⟩) l.length c rfl a 0 211 _).mono ?_; rintro e w1 ⟨rfl, hbw⟩; have c0_0 := hbw.cell (p := ⟨w.heap.size, 0, none⟩) (by first | omega | (simp <;> omega)); have f0_0 := hbw.frozen (p := ⟨w.heap.size, 0, none⟩) (by first | omega | (simp <;> omega)); have c0_1 := hbw.cell (p := ⟨w.heap.size, 1, none⟩) (by first | omega | (simp <;> omega)); have f0_1 := hbw.frozen (p := ⟨w.heap.size, 1, none⟩) (by first | omega | (simp <;> omega)); have c0_2 := hbw.cell (p := ⟨w.heap.size, 2, none⟩) (by first | omega | (simp <;> omega)); have f0_2 := hbw.frozen (p := ⟨w.heap.size, 2, none⟩) (by first | omega | (simp <;> omega)); have c1_0 := hbw.cell (p := ⟨w.heap.size + 1, 0, none⟩) (by first | omega | (simp <;> omega)); have f1_0 := hbw.frozen (p := ⟨w.heap.size + 1, 0, none⟩) (by first | omega | (simp <;> omega)); have c1_1 := hbw.cell (p := ⟨w.heap.size + 1, 1, none⟩) (by first | omega | (simp <;> omega)); have f1_1 := hbw.frozen (p := ⟨w.heap.size + 1, 1, none⟩) (by first | omega | (simp <;> omega)); have c1_2 := hbw.cell (p := ⟨w.heap.size + 1, 2, none⟩) (by first | omega | (simp <;> omega)); have f1_2 := hbw.frozen (p := ⟨w.heap.size + 1, 2, none⟩) (by first | omega | (simp <;> omega)))
        refine bodyPost_ret (v := .tuple #[.agg #[.slice (some ⟨b, o, none⟩) l.length c, .int .i64 a, .int .i64 211], .int .u64 0]) (by simp [results, Try.results97, go_sem, c1_0, c1_1, c1_2]) rfl ⟨rfl, ?_⟩
        (repeat (first | with_reducible exact Below.refl _ _ | ((with_reducible refine Below.setCell ?_ ?_ _); rotate_left; (focus (first | omega | (simp; done) | (simp; omega)))) | ((with_reducible refine Below.alloc ?_ ?_ _); rotate_left; (focus (first | omega | (simp; done) | (simp; omega)))) | (with_reducible refine Below.drew ?_) | (with_reducible refine below_drewN ?_ _) | ((with_reducible refine Below.trans ?_ (Below.mono hbw ?_)); rotate_left; (focus (first | omega | (simp; done) | (simp; omega))))))
      · obtain ⟨m, rfl⟩ : ∃ m, k = 239 + m := ⟨k - 239, by omega⟩
        have hm : ((239 + m : Nat) : Int) - 239 = m := by omega
        have hr : rdU l a = if l.length < a + 1 + m then (0, a, 210) else if (putsU (numB ((l.drop (a + 1)).take m))).length = m + 1 then (numB ((l.drop (a + 1)).take m), a + 1 + m, 0) else (0, a, 211) := by
          unfold rdU; rw [hf]; simp only [if_neg hs, if_neg h247, hm, Int.toNat_natCast]
        rw [hr]
        clear hr hf hm
        by_cases hsh : l.length < a + 1 + m
        · rw [if_pos hsh]
          go_enter Try.func97, Try.ntmps97
          go_wp2_with (go_at_call 106; refine (rfail_any _ (some ⟨b, o, none⟩) l.length c rfl a 0 210 _).mono ?_; rintro e w1 ⟨rfl, hbw⟩; have c0_0 := hbw.cell (p := ⟨w.heap.size, 0, none⟩) (by first | omega | (simp <;> omega)); have f0_0 := hbw.frozen (p := ⟨w.heap.size, 0, none⟩) (by first | omega | (simp <;> omega)); have c0_1 := hbw.cell (p := ⟨w.heap.size, 1, none⟩) (by first | omega | (simp <;> omega)); have f0_1 := hbw.frozen (p := ⟨w.heap.size, 1, none⟩) (by first | omega | (simp <;> omega)); have c0_2 := hbw.cell (p := ⟨w.heap.size, 2, none⟩) (by first | omega | (simp <;> omega)); have f0_2 := hbw.frozen (p := ⟨w.heap.size, 2, none⟩) (by first | omega | (simp <;> omega)); have c1_0 := hbw.cell (p := ⟨w.heap.size + 1, 0, none⟩) (by first | omega | (simp <;> omega)); have f1_0 := hbw.frozen (p := ⟨w.heap.size + 1, 0, none⟩) (by first | omega | (simp <;> omega)); have c1_1 := hbw.cell (p := ⟨w.heap.size + 1, 1, none⟩) (by first | omega | (simp <;> omega)); have f1_1 := hbw.frozen (p := ⟨w.heap.size + 1, 1, none⟩) (by first | omega | (simp <;> omega)); have c1_2 := hbw.cell (p := ⟨w.heap.size + 1, 2, none⟩) (by first | omega | (simp <;> omega)); have f1_2 := hbw.frozen (p := ⟨w.heap.size + 1, 2, none⟩) (by first | omega | (simp <;> omega)))
          refine bodyPost_ret (v := .tuple #[.agg #[.slice (some ⟨b, o, none⟩) l.length c, .int .i64 a, .int .i64 210], .int .u64 0]) (by simp [results, Try.results97, go_sem, c1_0, c1_1, c1_2]) rfl ⟨rfl, ?_⟩
          (repeat (first | with_reducible exact Below.refl _ _ | ((with_reducible refine Below.setCell ?_ ?_ _); rotate_left; (focus (first | omega | (simp; done) | (simp; omega)))) | ((with_reducible refine Below.alloc ?_ ?_ _); rotate_left; (focus (first | omega | (simp; done) | (simp; omega)))) | (with_reducible refine Below.drew ?_) | (with_reducible refine below_drewN ?_ _) | ((with_reducible refine Below.trans ?_ (Below.mono hbw ?_)); rotate_left; (focus (first | omega | (simp; done) | (simp; omega))))))
        · rw [if_neg hsh]
          obtain ⟨r, hr⟩ : ∃ r, (if (putsU (numB ((l.drop (a + 1)).take m))).length = m + 1 then (numB ((l.drop (a + 1)).take m), a + 1 + m, (0 : Int)) else (0, a, 211)) = r := ⟨_, rfl⟩
          rw [hr]
          have hdl : ((l.drop (a + 1)).take m).length = m := by simp; omega
          have hdb : AllB ((l.drop (a + 1)).take m) := fun x hx => hb x (List.mem_of_mem_drop (List.mem_of_mem_take hx))
          have hget : ∀ k, k < m → ((l.drop (a + 1)).take m)[k]? = l[a + (k + 1)]? := by
            intro k hk
            rw [List.getElem?_take, if_pos hk, List.getElem?_drop]; congr 1; omega
          generalize (l.drop (a + 1)).take m = D at *
          have HR := Lib.hid hr
          have HDL := Lib.hid hdl
          have HDB := Lib.hid hdb
          have HG := Lib.hid hget
          have hm1 : 1 ≤ m := by omega
          have hm8 : m ≤ 8 := by omega
          clear hdl hdb hget hr
          go_enter Try.func97, Try.ntmps97
          go_wp2
          rw [show (239 + (m : Int) - 239) = m by omega]
          go_loop [6, 7] (fun n i => ∃ k : Nat, k ≤ m ∧ i = .int .i64 ((k : Int) + 1) ∧ n = .int .u64 (numB (D.take k) : Int)) (fun _ i => m + 1 - (intOf i).toNat)
          case atStart => exact ⟨0, Nat.zero_le _, rfl, rfl⟩
          case round =>
            obtain ⟨k, hk, rfl, rfl⟩ := hrel
            by_cases hlt' : k < m
            · obtain ⟨x, hx⟩ := getElem?_ex (l := D) (k := k) (by rw [HDL.out]; exact hlt')
              have hxb := HDB.out x (List.mem_of_getElem? hx)
              have hc2 : w.cell? ⟨b, o + (a + (k + 1)), none⟩ = some (.int .u8 x) := by
                obtain ⟨_, _, e0, _, _, _, h4⟩ := HI.out
                obtain ⟨b', o', e1, _, hc⟩ := h4 (a + (k + 1)) x (by rw [← HG.out k hlt']; exact hx)
                injection e0 with e0 _ _
                subst e0
                injection e1 with e1
                injection e1 with e2 e3
                subst e2 e3
                exact hc
              have hstep : numB (D.take (k + 1)) = numB (D.take k) * 256 + x.toNat := by rw [take_snoc' hx, numB_snoc]
              have hNk : numB (D.take k) < 72057594037927936 := by
                have h1 := numB_lt (D.take k) fun y hy => HDB.out y (List.mem_of_mem_take hy)
                have h2 : (D.take k).length ≤ 7 := by simp; omega
                exact Nat.lt_of_lt_of_le h1 (Nat.le_trans (Nat.pow_le_pow_right (by omega) h2) (by decide))
              have hai : ((a : Int) + ((k : Int) + 1)) = ((a + (k + 1) : Nat) : Int) := by omega
              have HS := Lib.hid hstep
              have HA := Lib.hid hai
              clear hstep hx hai
              go_wp2
              go_round
              case rel => exact ⟨k + 1, by omega, by go_num, by rw [HS.out]; go_num⟩
              case measure => simp [intOf]; omega
            · obtain rfl : k = m := by omega
              have hfull : numB (D.take k) = numB D := by rw [List.take_of_length_le (by rw [HDL.out]; exact Nat.le_refl _)]
              rw [hfull]
              have hND : (numB D : Int) ≤ 18446744073709551615 := by
                have h1 := numB_lt D HDB.out
                rw [HDL.out] at h1
                have := Nat.lt_of_lt_of_le h1 (Nat.le_trans (Nat.pow_le_pow_right (by omega) hm8) (show 256 ^ 8 ≤ 18446744073709551616 by decide))
                omega
              clear hfull
              have hUL := putsU_len (n := numB D)
              obtain ⟨u, hu⟩ : ∃ u, (putsU (numB D)).length = u := ⟨_, rfl⟩
              rw [hu] at hUL
              have HU := Lib.hid hu
              clear hu
              go_wp2_with fail
              refine (rU_any (numB D) _ hND).mono ?_
              rintro e w1 ⟨v1, rfl, ho, hbw⟩
              obtain ⟨ad1, cc1, rfl⟩ := (Ints.own ho (by have := HU.out; omega)).2.shape
              clear ho
              rw [HU.out]
              have c0_0 := hbw.cell (p := ⟨w.heap.size, 0, none⟩) (by first | omega | (simp <;> omega)); have f0_0 := hbw.frozen (p := ⟨w.heap.size, 0, none⟩) (by first | omega | (simp <;> omega)); have c0_1 := hbw.cell (p := ⟨w.heap.size, 1, none⟩) (by first | omega | (simp <;> omega)); have f0_1 := hbw.frozen (p := ⟨w.heap.size, 1, none⟩) (by first | omega | (simp <;> omega)); have c0_2 := hbw.cell (p := ⟨w.heap.size, 2, none⟩) (by first | omega | (simp <;> omega)); have f0_2 := hbw.frozen (p := ⟨w.heap.size, 2, none⟩) (by first | omega | (simp <;> omega)); have c1_0 := hbw.cell (p := ⟨w.heap.size + 1, 0, none⟩) (by first | omega | (simp <;> omega)); have f1_0 := hbw.frozen (p := ⟨w.heap.size + 1, 0, none⟩) (by first | omega | (simp <;> omega)); have c1_1 := hbw.cell (p := ⟨w.heap.size + 1, 1, none⟩) (by first | omega | (simp <;> omega)); have f1_1 := hbw.frozen (p := ⟨w.heap.size + 1, 1, none⟩) (by first | omega | (simp <;> omega)); have c1_2 := hbw.cell (p := ⟨w.heap.size + 1, 2, none⟩) (by first | omega | (simp <;> omega)); have f1_2 := hbw.frozen (p := ⟨w.heap.size + 1, 2, none⟩) (by first | omega | (simp <;> omega))
              have hz : w.heap.size + 1 < w1.heap.size := by have := hbw.size; simp at this; omega
              by_cases hun : u = k + 1
              · have hub : ((u : Int) != (k : Int) + 1) = false := by simp; omega
                have HN := Lib.hid hun
                clear hun
                go_wp2
                have hr := HR.out
                rw [if_pos (by rw [HU.out]; exact HN.out)] at hr
                subst hr
                refine bodyPost_ret (v := .tuple #[.agg #[.slice (some ⟨b, o, none⟩) l.length c, .int .i64 ((a : Int) + k + 1), .int .i64 0], .int .u64 (numB D)]) (by simp [results, Try.results97, go_sem, *]) rfl ⟨?_, ?_⟩
                · rw [show ((a + 1 + k : Nat) : Int) = (a : Int) + k + 1 by omega]
                · (repeat (first | with_reducible exact Below.refl _ _ | ((with_reducible refine Below.setCell ?_ ?_ _); rotate_left; (focus (first | omega | (simp; done) | (simp; omega)))) | ((with_reducible refine Below.alloc ?_ ?_ _); rotate_left; (focus (first | omega | (simp; done) | (simp; omega)))) | (with_reducible refine Below.drew ?_) | (with_reducible refine below_drewN ?_ _) | ((with_reducible refine Below.trans ?_ (Below.mono hbw ?_)); rotate_left; (focus (first | omega | (simp; done) | (simp; omega))))))
              · have hub : ((u : Int) != (k : Int) + 1) = true := by simp; omega
                have HN := Lib.hid hun
                clear hun
                go_wp2_with (go_at_call 106; refine (rfail_any _ (some ⟨b, o, none⟩) l.length c rfl a 0 211 _).mono ?_; rintro e w2 ⟨rfl, hbw2⟩; have c0_0 := hbw2.cell (p := ⟨w.heap.size, 0, none⟩) (by first | omega | (simp <;> omega)); have f0_0 := hbw2.frozen (p := ⟨w.heap.size, 0, none⟩) (by first | omega | (simp <;> omega)); have c0_1 := hbw2.cell (p := ⟨w.heap.size, 1, none⟩) (by first | omega | (simp <;> omega)); have f0_1 := hbw2.frozen (p := ⟨w.heap.size, 1, none⟩) (by first | omega | (simp <;> omega)); have c0_2 := hbw2.cell (p := ⟨w.heap.size, 2, none⟩) (by first | omega | (simp <;> omega)); have f0_2 := hbw2.frozen (p := ⟨w.heap.size, 2, none⟩) (by first | omega | (simp <;> omega)); have c1_0 := hbw2.cell (p := ⟨w.heap.size + 1, 0, none⟩) (by first | omega | (simp <;> omega)); have f1_0 := hbw2.frozen (p := ⟨w.heap.size + 1, 0, none⟩) (by first | omega | (simp <;> omega)); have c1_1 := hbw2.cell (p := ⟨w.heap.size + 1, 1, none⟩) (by first | omega | (simp <;> omega)); have f1_1 := hbw2.frozen (p := ⟨w.heap.size + 1, 1, none⟩) (by first | omega | (simp <;> omega)); have c1_2 := hbw2.cell (p := ⟨w.heap.size + 1, 2, none⟩) (by first | omega | (simp <;> omega)); have f1_2 := hbw2.frozen (p := ⟨w.heap.size + 1, 2, none⟩) (by first | omega | (simp <;> omega)))
                have hr := HR.out
                rw [if_neg (by rw [HU.out]; exact HN.out)] at hr
                subst hr
                refine bodyPost_ret (v := .tuple #[.agg #[.slice (some ⟨b, o, none⟩) l.length c, .int .i64 a, .int .i64 211], .int .u64 0]) (by simp [results, Try.results97, go_sem, *]) rfl ⟨rfl, ?_⟩
                (repeat (first | with_reducible exact Below.refl _ _ | ((with_reducible refine Below.setCell ?_ ?_ _); rotate_left; (focus (first | omega | (simp; done) | (simp; omega)))) | ((with_reducible refine Below.alloc ?_ ?_ _); rotate_left; (focus (first | omega | (simp; done) | (simp; omega)))) | (with_reducible refine Below.drew ?_) | (with_reducible refine below_drewN ?_ _) | ((with_reducible refine Below.trans ?_ (Below.mono hbw2 ?_)); rotate_left; (focus (first | omega | (simp; done) | (simp; omega)))) | ((with_reducible refine Below.trans ?_ (Below.mono hbw ?_)); rotate_left; (focus (first | omega | (simp; done) | (simp; omega))))))
end Go.Proofs.Ytfbodloidogliaa
