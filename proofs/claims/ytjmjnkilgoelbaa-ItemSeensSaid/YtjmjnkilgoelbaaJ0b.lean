/-
  BinP: Walks of copseref21's readers.
  BinQ: Walks of copseref21's readers, continued: whatever reader comes in, failed or not.
  BinR: Walks of copseref21's readers: numbers with a sign, texts, failing.
  BinS: Walk of copseref21's reader of lists.
  Same01: Walk of copseref01.Same: whether two lists of integers are the same.
  BinT: Walk of copselaw21.ask: a reader is asked, both ways.
  ItemP: Plain laws of layer 22: what is read, and the bytes of scores, asks, ways to work, events.
  PairM: Slices of pairs of integers (scores, ratios): how they lie; append of a whole one.
  Digs: Plain laws on digits of base 65536.
  RefBig: Walks of copseref01's large numbers.
  Digs2: More plain laws on digits: differences, products, order.
  RefBig2: Walks of copseref01's large numbers, continued: differences, order.
  RefWhole: Walks of copseref01's whole numbers with a sign.
  RefTimes: Walks of copseref01: products.
  RefFits: Walks of copseref01: whole numbers back to numbers; sums, differences, products.
  RefTurn: Walks of copseref01: whole numbers turned, and multiplied.
  RefCalc: Walks of copseref01: sums, differences, products of numbers.
  RefDiv: Walks of copseref01: quotients, the greatest divisor, doublings.
  ScoreA: Walks of score.Is, score.odder, score.Cmp and of the reference's Is and Odder.
  App1: Append of one element at a step of a region that draws its order.
  App2: Append of a whole list of integers at a step of a region that draws its order.
  ItemA: Walks of item.nats, item.PutScore and of the reference's Score.
  ItemB: Walks of item.checked (a score), item.GetScore, and of the reference's form and GetScore.
  TreeP: Plain laws of trees: which nodes are a tree, the way of a vector, the leaves.
-/
import Derived.Test.YtjmjnkilgoelbaaJ0a
import Derived.Lib.ItoaNum
import Derived.Deep.RegionHeld3
namespace Go.Proofs.Ytjmjnkilgoelbaa
open Go.RowKit

/-- A reader by value. -/
def rdv (v : Value) (a e : Int) : Value := .agg #[v, .int .i64 a, .int .i64 e]

theorem rfail_any (v : Value) (ad : Option Addr) (n c : Nat) (hv : v = .slice ad n c) (a e0 x : Int) (w : World) :
    Calls Try.prog 159 #[.agg #[v, .int .i64 a, .int .i64 e0], .int .i64 x] w fun e w' => e = .returned (.agg #[v, .int .i64 a, .int .i64 x]) ∧ Below w.heap.size w w' := by
  subst hv
  go_enter Try.func159, Try.ntmps159
  go_wp2
  refine bodyPost_ret (v := .agg #[.slice ad n c, .int .i64 a, .int .i64 x]) (by simp [results, Try.results159, go_sem]) rfl ⟨rfl, ?_⟩
  (repeat (first | with_reducible exact Below.refl _ _ | with_reducible refine Bs ?_ | with_reducible refine Ba ?_ | with_reducible refine Bd ?_ | with_reducible refine Bn ?_))
/-- What a function that reads a number from a reader by value tells. -/
def RefU (w : World) (v : Value) (r : Nat × Nat × Int) (e : Ending) (w' : World) : Prop := e = .returned (.tuple #[.agg #[v, .int .i64 r.2.1, .int .i64 r.2.2], .int .u64 r.1]) ∧ Below w.heap.size w w'

set_option maxRecDepth 100000 in
theorem rReadU_dead (ad : Option Addr) (n c : Nat) (a : Nat) (e0 : Int) (he : e0 ≠ 0) (w : World) :
    Calls Try.prog 158 #[.agg #[.slice ad n c, .int .i64 a, .int .i64 e0]] w fun e w' => RefU w (.slice ad n c) (0, a, e0) e w' := by
  have hne : (e0 != 0) = true := by simpa using he
  clear he
  go_enter Try.func158, Try.ntmps158
  go_wp2
  refine bodyPost_ret (v := .tuple #[.agg #[.slice ad n c, .int .i64 a, .int .i64 e0], .int .u64 0]) (by simp [results, Try.results158, go_sem]) rfl ⟨rfl, ?_⟩
  (repeat (first | with_reducible exact Below.refl _ _ | with_reducible refine Bs ?_ | with_reducible refine Ba ?_ | with_reducible refine Bd ?_ | with_reducible refine Bn ?_))

set_option maxRecDepth 100000 in
set_option maxHeartbeats 2000000 in
theorem rReadU_any (v : Value) (l : List Int) (a : Nat) (w : World) (h : Ints .u8 w v l) (hb : AllB l) (ha : a ≤ l.length) (hl : l.length ≤ 100000) :
    Calls Try.prog 158 #[.agg #[v, .int .i64 a, .int .i64 0]] w fun e w' => RefU w v (rdU l a) e w' := by
  have HI := Lib.hid h
  obtain ⟨ad, c, rfl⟩ := h.shape
  clear h
  cases hf : l[a]? with
  | none =>
    have hr : rdU l a = (0, a, 210) := by unfold rdU; rw [hf]
    rw [hr]
    have hal : (l.length : Int) ≤ a := by
      rcases Nat.lt_or_ge a l.length with hlt | hge
      · rw [List.getElem?_eq_getElem hlt] at hf; cases hf
      · omega
    clear hr hf
    go_enter Try.func158, Try.ntmps158
    go_wp2_with (go_at_call 159; refine (rfail_any _ ad l.length c rfl a 0 210 _).mono ?_; rintro e w1 ⟨rfl, hbw⟩; have c0_0 := hbw.cell (p := ⟨w.heap.size, 0, none⟩) (by first | omega | (simp <;> omega)); have f0_0 := hbw.frozen (p := ⟨w.heap.size, 0, none⟩) (by first | omega | (simp <;> omega)); have c0_1 := hbw.cell (p := ⟨w.heap.size, 1, none⟩) (by first | omega | (simp <;> omega)); have f0_1 := hbw.frozen (p := ⟨w.heap.size, 1, none⟩) (by first | omega | (simp <;> omega)); have c0_2 := hbw.cell (p := ⟨w.heap.size, 2, none⟩) (by first | omega | (simp <;> omega)); have f0_2 := hbw.frozen (p := ⟨w.heap.size, 2, none⟩) (by first | omega | (simp <;> omega)); have c1_0 := hbw.cell (p := ⟨w.heap.size + 1, 0, none⟩) (by first | omega | (simp <;> omega)); have f1_0 := hbw.frozen (p := ⟨w.heap.size + 1, 0, none⟩) (by first | omega | (simp <;> omega)); have c1_1 := hbw.cell (p := ⟨w.heap.size + 1, 1, none⟩) (by first | omega | (simp <;> omega)); have f1_1 := hbw.frozen (p := ⟨w.heap.size + 1, 1, none⟩) (by first | omega | (simp <;> omega)); have c1_2 := hbw.cell (p := ⟨w.heap.size + 1, 2, none⟩) (by first | omega | (simp <;> omega)); have f1_2 := hbw.frozen (p := ⟨w.heap.size + 1, 2, none⟩) (by first | omega | (simp <;> omega)))
    have hz : w.heap.size + 1 < w1.heap.size := by have := hbw.size; simp at this; omega
    refine bodyPost_ret (v := .tuple #[.agg #[.slice ad l.length c, .int .i64 a, .int .i64 210], .int .u64 0]) (by simp [results, Try.results158, go_sem, c1_0, c1_1, c1_2]) rfl ⟨rfl, ?_⟩
    (repeat (first | with_reducible exact Below.refl _ _ | with_reducible refine Bs ?_ | with_reducible refine Ba ?_ | with_reducible refine Bd ?_ | with_reducible refine Bn ?_ | with_reducible refine Bt hbw ?_))
  | some f =>
    have hal : a < l.length := (List.getElem?_eq_some_iff.1 hf).1
    have hfb := hb f (List.mem_of_getElem? hf)
    obtain ⟨b, o, rfl, hcell⟩ : ∃ b o, ad = some ⟨b, o, none⟩ ∧ w.cell? ⟨b, o + a, none⟩ = some (.int .u8 f) ∧ b < w.heap.size := by
      obtain ⟨_, _, e0, _, _, _, h4⟩ := HI.out
      obtain ⟨b, o, e1, hlt, hc⟩ := h4 a f hf
      injection e0 with e0 _ _
      exact ⟨b, o, e0.trans e1, hc, hlt⟩
    obtain ⟨hcell, hblt⟩ := hcell
    by_cases hs : f < 240
    · have hr : rdU l a = (f.toNat, a + 1, 0) := by unfold rdU; rw [hf]; simp only [if_pos hs]
      rw [hr]
      clear hr hf
      obtain ⟨k, rfl⟩ := Int.eq_ofNat_of_zero_le hfb.1
      rw [Int.toNat_natCast]
      go_enter Try.func158, Try.ntmps158
      go_wp2
      refine bodyPost_ret (v := .tuple #[.agg #[.slice (some ⟨b, o, none⟩) l.length c, .int .i64 ((a : Int) + 1), .int .i64 0], .int .u64 k]) (by simp [results, Try.results158, go_sem]) rfl ⟨rfl, ?_⟩
      (repeat (first | with_reducible exact Below.refl _ _ | with_reducible refine Bs ?_ | with_reducible refine Ba ?_ | with_reducible refine Bd ?_ | with_reducible refine Bn ?_))
    · obtain ⟨k, rfl⟩ := Int.eq_ofNat_of_zero_le hfb.1
      by_cases h247 : (247 : Int) < k
      · have hr : rdU l a = (0, a, 211) := by unfold rdU; rw [hf]; simp only [if_neg hs, if_pos h247]
        rw [hr]
        clear hr hf
        go_enter Try.func158, Try.ntmps158
        go_wp2_with (go_at_call 159; refine (rfail_any _ (some ⟨b, o, none⟩) l.length c rfl a 0 211 _).mono ?_; rintro e w1 ⟨rfl, hbw⟩; have c0_0 := hbw.cell (p := ⟨w.heap.size, 0, none⟩) (by first | omega | (simp <;> omega)); have f0_0 := hbw.frozen (p := ⟨w.heap.size, 0, none⟩) (by first | omega | (simp <;> omega)); have c0_1 := hbw.cell (p := ⟨w.heap.size, 1, none⟩) (by first | omega | (simp <;> omega)); have f0_1 := hbw.frozen (p := ⟨w.heap.size, 1, none⟩) (by first | omega | (simp <;> omega)); have c0_2 := hbw.cell (p := ⟨w.heap.size, 2, none⟩) (by first | omega | (simp <;> omega)); have f0_2 := hbw.frozen (p := ⟨w.heap.size, 2, none⟩) (by first | omega | (simp <;> omega)); have c1_0 := hbw.cell (p := ⟨w.heap.size + 1, 0, none⟩) (by first | omega | (simp <;> omega)); have f1_0 := hbw.frozen (p := ⟨w.heap.size + 1, 0, none⟩) (by first | omega | (simp <;> omega)); have c1_1 := hbw.cell (p := ⟨w.heap.size + 1, 1, none⟩) (by first | omega | (simp <;> omega)); have f1_1 := hbw.frozen (p := ⟨w.heap.size + 1, 1, none⟩) (by first | omega | (simp <;> omega)); have c1_2 := hbw.cell (p := ⟨w.heap.size + 1, 2, none⟩) (by first | omega | (simp <;> omega)); have f1_2 := hbw.frozen (p := ⟨w.heap.size + 1, 2, none⟩) (by first | omega | (simp <;> omega)))
        refine bodyPost_ret (v := .tuple #[.agg #[.slice (some ⟨b, o, none⟩) l.length c, .int .i64 a, .int .i64 211], .int .u64 0]) (by simp [results, Try.results158, go_sem, c1_0, c1_1, c1_2]) rfl ⟨rfl, ?_⟩
        (repeat (first | with_reducible exact Below.refl _ _ | with_reducible refine Bs ?_ | with_reducible refine Ba ?_ | with_reducible refine Bd ?_ | with_reducible refine Bn ?_ | with_reducible refine Bt hbw ?_))
      · obtain ⟨m, rfl⟩ : ∃ m, k = 239 + m := ⟨k - 239, by omega⟩
        have hm : ((239 + m : Nat) : Int) - 239 = m := by omega
        have hr : rdU l a = if l.length < a + 1 + m then (0, a, 210) else if (putsU (numB ((l.drop (a + 1)).take m))).length = m + 1 then (numB ((l.drop (a + 1)).take m), a + 1 + m, 0) else (0, a, 211) := by
          unfold rdU; rw [hf]; simp only [if_neg hs, if_neg h247, hm, Int.toNat_natCast]
        rw [hr]
        clear hr hf hm
        by_cases hsh : l.length < a + 1 + m
        · rw [if_pos hsh]
          go_enter Try.func158, Try.ntmps158
          go_wp2_with (go_at_call 159; refine (rfail_any _ (some ⟨b, o, none⟩) l.length c rfl a 0 210 _).mono ?_; rintro e w1 ⟨rfl, hbw⟩; have c0_0 := hbw.cell (p := ⟨w.heap.size, 0, none⟩) (by first | omega | (simp <;> omega)); have f0_0 := hbw.frozen (p := ⟨w.heap.size, 0, none⟩) (by first | omega | (simp <;> omega)); have c0_1 := hbw.cell (p := ⟨w.heap.size, 1, none⟩) (by first | omega | (simp <;> omega)); have f0_1 := hbw.frozen (p := ⟨w.heap.size, 1, none⟩) (by first | omega | (simp <;> omega)); have c0_2 := hbw.cell (p := ⟨w.heap.size, 2, none⟩) (by first | omega | (simp <;> omega)); have f0_2 := hbw.frozen (p := ⟨w.heap.size, 2, none⟩) (by first | omega | (simp <;> omega)); have c1_0 := hbw.cell (p := ⟨w.heap.size + 1, 0, none⟩) (by first | omega | (simp <;> omega)); have f1_0 := hbw.frozen (p := ⟨w.heap.size + 1, 0, none⟩) (by first | omega | (simp <;> omega)); have c1_1 := hbw.cell (p := ⟨w.heap.size + 1, 1, none⟩) (by first | omega | (simp <;> omega)); have f1_1 := hbw.frozen (p := ⟨w.heap.size + 1, 1, none⟩) (by first | omega | (simp <;> omega)); have c1_2 := hbw.cell (p := ⟨w.heap.size + 1, 2, none⟩) (by first | omega | (simp <;> omega)); have f1_2 := hbw.frozen (p := ⟨w.heap.size + 1, 2, none⟩) (by first | omega | (simp <;> omega)))
          refine bodyPost_ret (v := .tuple #[.agg #[.slice (some ⟨b, o, none⟩) l.length c, .int .i64 a, .int .i64 210], .int .u64 0]) (by simp [results, Try.results158, go_sem, c1_0, c1_1, c1_2]) rfl ⟨rfl, ?_⟩
          (repeat (first | with_reducible exact Below.refl _ _ | with_reducible refine Bs ?_ | with_reducible refine Ba ?_ | with_reducible refine Bd ?_ | with_reducible refine Bn ?_ | with_reducible refine Bt hbw ?_))
        · rw [if_neg hsh]
          obtain ⟨r, hr⟩ : ∃ r, (if (putsU (numB ((l.drop (a + 1)).take m))).length = m + 1 then (numB ((l.drop (a + 1)).take m), a + 1 + m, (0 : Int)) else (0, a, 211)) = r := ⟨_, rfl⟩
          rw [hr]
          have hdl : ((l.drop (a + 1)).take m).length = m := by simp; omega
          have hdb : AllB ((l.drop (a + 1)).take m) := fun x hx => hb x (List.mem_of_mem_drop (List.mem_of_mem_take hx))
          have hget : ∀ k, k < m → ((l.drop (a + 1)).take m)[k]? = l[a + (k + 1)]? := by
            intro k hk
            rw [List.getElem?_take, if_pos hk, List.getElem?_drop]; congr 1; omega
          generalize (l.drop (a + 1)).take m = D at *
          have HR := Lib.hid hr
          have HDL := Lib.hid hdl
          have HDB := Lib.hid hdb
          have HG := Lib.hid hget
          have hm1 : 1 ≤ m := by omega
          have hm8 : m ≤ 8 := by omega
          clear hdl hdb hget hr
          go_enter Try.func158, Try.ntmps158
          go_wp2
          rw [show (239 + (m : Int) - 239) = m by omega]
          go_loop [6, 7] (fun n i => ∃ k : Nat, k ≤ m ∧ i = .int .i64 ((k : Int) + 1) ∧ n = .int .u64 (numB (D.take k) : Int)) (fun _ i => m + 1 - (intOf i).toNat)
          case atStart => exact ⟨0, Nat.zero_le _, rfl, rfl⟩
          case round =>
            obtain ⟨k, hk, rfl, rfl⟩ := hrel
            by_cases hlt' : k < m
            · obtain ⟨x, hx⟩ := getElem?_ex (l := D) (k := k) (by rw [HDL.out]; exact hlt')
              have hxb := HDB.out x (List.mem_of_getElem? hx)
              have hc2 : w.cell? ⟨b, o + (a + (k + 1)), none⟩ = some (.int .u8 x) := by
                obtain ⟨_, _, e0, _, _, _, h4⟩ := HI.out
                obtain ⟨b', o', e1, _, hc⟩ := h4 (a + (k + 1)) x (by rw [← HG.out k hlt']; exact hx)
                injection e0 with e0 _ _
                subst e0
                injection e1 with e1
                injection e1 with e2 e3
                subst e2 e3
                exact hc
              have hstep : numB (D.take (k + 1)) = numB (D.take k) * 256 + x.toNat := by rw [take_snoc' hx, numB_snoc]
              have hNk : numB (D.take k) < 72057594037927936 := by
                have h1 := numB_lt (D.take k) fun y hy => HDB.out y (List.mem_of_mem_take hy)
                have h2 : (D.take k).length ≤ 7 := by simp; omega
                exact Nat.lt_of_lt_of_le h1 (Nat.le_trans (Nat.pow_le_pow_right (by omega) h2) (by decide))
              have hai : ((a : Int) + ((k : Int) + 1)) = ((a + (k + 1) : Nat) : Int) := by omega
              have HS := Lib.hid hstep
              have HA := Lib.hid hai
              clear hstep hx hai
              go_wp2
              go_round
              case rel => exact ⟨k + 1, by omega, by go_num, by rw [HS.out]; go_num⟩
              case measure => simp [intOf]; omega
            · obtain rfl : k = m := by omega
              have hfull : numB (D.take k) = numB D := by rw [List.take_of_length_le (by rw [HDL.out]; exact Nat.le_refl _)]
              rw [hfull]
              have hND : (numB D : Int) ≤ 18446744073709551615 := by
                have h1 := numB_lt D HDB.out
                rw [HDL.out] at h1
                have := Nat.lt_of_lt_of_le h1 (Nat.le_trans (Nat.pow_le_pow_right (by omega) hm8) (show 256 ^ 8 ≤ 18446744073709551616 by decide))
                omega
              clear hfull
              have hUL := putsU_len (n := numB D)
              obtain ⟨u, hu⟩ : ∃ u, (putsU (numB D)).length = u := ⟨_, rfl⟩
              rw [hu] at hUL
              have HU := Lib.hid hu
              clear hu
              go_wp2_with fail
              refine (rU_any (numB D) _ hND).mono ?_
              rintro e w1 ⟨v1, rfl, ho, hbw⟩
              obtain ⟨ad1, cc1, rfl⟩ := (Ints.own ho (by have := HU.out; omega)).2.shape
              clear ho
              rw [HU.out]
              have c0_0 := hbw.cell (p := ⟨w.heap.size, 0, none⟩) (by first | omega | (simp <;> omega)); have f0_0 := hbw.frozen (p := ⟨w.heap.size, 0, none⟩) (by first | omega | (simp <;> omega)); have c0_1 := hbw.cell (p := ⟨w.heap.size, 1, none⟩) (by first | omega | (simp <;> omega)); have f0_1 := hbw.frozen (p := ⟨w.heap.size, 1, none⟩) (by first | omega | (simp <;> omega)); have c0_2 := hbw.cell (p := ⟨w.heap.size, 2, none⟩) (by first | omega | (simp <;> omega)); have f0_2 := hbw.frozen (p := ⟨w.heap.size, 2, none⟩) (by first | omega | (simp <;> omega)); have c1_0 := hbw.cell (p := ⟨w.heap.size + 1, 0, none⟩) (by first | omega | (simp <;> omega)); have f1_0 := hbw.frozen (p := ⟨w.heap.size + 1, 0, none⟩) (by first | omega | (simp <;> omega)); have c1_1 := hbw.cell (p := ⟨w.heap.size + 1, 1, none⟩) (by first | omega | (simp <;> omega)); have f1_1 := hbw.frozen (p := ⟨w.heap.size + 1, 1, none⟩) (by first | omega | (simp <;> omega)); have c1_2 := hbw.cell (p := ⟨w.heap.size + 1, 2, none⟩) (by first | omega | (simp <;> omega)); have f1_2 := hbw.frozen (p := ⟨w.heap.size + 1, 2, none⟩) (by first | omega | (simp <;> omega))
              have hz : w.heap.size + 1 < w1.heap.size := by have := hbw.size; simp at this; omega
              by_cases hun : u = k + 1
              · have hub : ((u : Int) != (k : Int) + 1) = false := by simp; omega
                have HN := Lib.hid hun
                clear hun
                go_wp2
                have hr := HR.out
                rw [if_pos (by rw [HU.out]; exact HN.out)] at hr
                subst hr
                refine bodyPost_ret (v := .tuple #[.agg #[.slice (some ⟨b, o, none⟩) l.length c, .int .i64 ((a : Int) + k + 1), .int .i64 0], .int .u64 (numB D)]) (by simp [results, Try.results158, go_sem, *]) rfl ⟨?_, ?_⟩
                · rw [show ((a + 1 + k : Nat) : Int) = (a : Int) + k + 1 by omega]
                · (repeat (first | with_reducible exact Below.refl _ _ | with_reducible refine Bs ?_ | with_reducible refine Ba ?_ | with_reducible refine Bd ?_ | with_reducible refine Bn ?_ | with_reducible refine Bt hbw ?_))
              · have hub : ((u : Int) != (k : Int) + 1) = true := by simp; omega
                have HN := Lib.hid hun
                clear hun
                go_wp2_with (go_at_call 159; refine (rfail_any _ (some ⟨b, o, none⟩) l.length c rfl a 0 211 _).mono ?_; rintro e w2 ⟨rfl, hbw2⟩; have c0_0 := hbw2.cell (p := ⟨w.heap.size, 0, none⟩) (by first | omega | (simp <;> omega)); have f0_0 := hbw2.frozen (p := ⟨w.heap.size, 0, none⟩) (by first | omega | (simp <;> omega)); have c0_1 := hbw2.cell (p := ⟨w.heap.size, 1, none⟩) (by first | omega | (simp <;> omega)); have f0_1 := hbw2.frozen (p := ⟨w.heap.size, 1, none⟩) (by first | omega | (simp <;> omega)); have c0_2 := hbw2.cell (p := ⟨w.heap.size, 2, none⟩) (by first | omega | (simp <;> omega)); have f0_2 := hbw2.frozen (p := ⟨w.heap.size, 2, none⟩) (by first | omega | (simp <;> omega)); have c1_0 := hbw2.cell (p := ⟨w.heap.size + 1, 0, none⟩) (by first | omega | (simp <;> omega)); have f1_0 := hbw2.frozen (p := ⟨w.heap.size + 1, 0, none⟩) (by first | omega | (simp <;> omega)); have c1_1 := hbw2.cell (p := ⟨w.heap.size + 1, 1, none⟩) (by first | omega | (simp <;> omega)); have f1_1 := hbw2.frozen (p := ⟨w.heap.size + 1, 1, none⟩) (by first | omega | (simp <;> omega)); have c1_2 := hbw2.cell (p := ⟨w.heap.size + 1, 2, none⟩) (by first | omega | (simp <;> omega)); have f1_2 := hbw2.frozen (p := ⟨w.heap.size + 1, 2, none⟩) (by first | omega | (simp <;> omega)))
                have hr := HR.out
                rw [if_neg (by rw [HU.out]; exact HN.out)] at hr
                subst hr
                refine bodyPost_ret (v := .tuple #[.agg #[.slice (some ⟨b, o, none⟩) l.length c, .int .i64 a, .int .i64 211], .int .u64 0]) (by simp [results, Try.results158, go_sem, *]) rfl ⟨rfl, ?_⟩
                (repeat (first | with_reducible exact Below.refl _ _ | with_reducible refine Bs ?_ | with_reducible refine Ba ?_ | with_reducible refine Bd ?_ | with_reducible refine Bn ?_ | with_reducible refine Bt hbw2 ?_ | with_reducible refine Bt hbw ?_))
end Go.Proofs.Ytjmjnkilgoelbaa

namespace Go.Proofs.Ytjmjnkilgoelbaa
open Go.RowKit

def rdU' (l : List Int) (a : Nat) (e : Int) : Nat × Nat × Int := if e = 0 then rdU l a else (0, a, e)
def rdN' (l : List Int) (a : Nat) (e most : Int) : Nat × Nat × Int := if e = 0 then rdN l a most else (0, a, e)
def rdI' (l : List Int) (a : Nat) (e : Int) : Int × Nat × Int := if e = 0 then rdI l a else (0, a, e)
def rdText' (l : List Int) (a : Nat) (e most : Int) : List Int × Nat × Int := if e = 0 then rdText l a most else ([], a, e)
def rdInts' (l : List Int) (a : Nat) (e most : Int) : List Int × Nat × Int := if e = 0 then rdInts l a most else ([], a, e)

/-- A reader by value and another result. -/
def RefR (w : World) (v : Value) (a : Nat) (x : Int) (u : Value) (e : Ending) (w' : World) : Prop := e = .returned (.tuple #[.agg #[v, .int .i64 a, .int .i64 x], u]) ∧ Below w.heap.size w w'

theorem rReadU_all (v : Value) (l : List Int) (a : Nat) (e0 : Int) (w : World) (h : Ints .u8 w v l) (hb : AllB l) (ha : a ≤ l.length) (hl : l.length ≤ 100000) :
    Calls Try.prog 158 #[.agg #[v, .int .i64 a, .int .i64 e0]] w fun e w' => RefR w v (rdU' l a e0).2.1 (rdU' l a e0).2.2 (.int .u64 (rdU' l a e0).1) e w' := by
  by_cases he : e0 = 0
  · subst he
    rw [rdU', if_pos rfl]
    exact rReadU_any v l a w h hb ha hl
  · rw [rdU', if_neg he]
    obtain ⟨ad, c, rfl⟩ := h.shape
    exact rReadU_dead ad _ c a e0 he w

theorem rdU'_facts (l : List Int) (hb : AllB l) (a : Nat) (e : Int) : ((rdU' l a e).2.2 ≠ 0 → (rdU' l a e).1 = 0 ∧ (rdU' l a e).2.1 = a) ∧ (rdU' l a e).1 < 18446744073709551616 := by
  have h1 := rdU_bad l a
  have h2 := rdU_ok l hb a
  unfold rdU'
  by_cases he : e = 0
  · rw [if_pos he]
    refine ⟨h1, ?_⟩
    by_cases h3 : (rdU l a).2.2 = 0
    · exact (h2 h3).2.2.1
    · rw [(h1 h3).1]; decide
  · rw [if_neg he]; exact ⟨fun _ => ⟨rfl, rfl⟩, by simp⟩

theorem rdN'_of (l : List Int) (a : Nat) (e most : Int) : rdN' l a e most = if (rdU' l a e).2.2 ≠ 0 then (0, a, (rdU' l a e).2.2) else if most < 0 ∨ most < ((rdU' l a e).1 : Int) then (0, a, 211) else rdU' l a e := by
  unfold rdN' rdU' rdN
  by_cases he : e = 0
  · simp only [if_pos he]
  · simp only [if_neg he]; rw [if_pos (by exact he)]

theorem rdI'_of (l : List Int) (a : Nat) (e : Int) : rdI' l a e = (unzig (rdU' l a e).1, (rdU' l a e).2.1, (rdU' l a e).2.2) := by
  unfold rdI' rdU' rdI
  by_cases he : e = 0
  · simp only [if_pos he]
  · simp only [if_neg he]; rfl

theorem rdText'_of (l : List Int) (a : Nat) (e most : Int) : rdText' l a e most = if (rdN' l a e most).2.2 ≠ 0 then ([], a, (rdN' l a e most).2.2) else if l.length < (rdN' l a e most).2.1 + (rdN' l a e most).1 then ([], a, 210)
    else ((l.drop (rdN' l a e most).2.1).take (rdN' l a e most).1, (rdN' l a e most).2.1 + (rdN' l a e most).1, 0) := by
  unfold rdText' rdN' rdText
  by_cases he : e = 0
  · simp only [if_pos he]
  · simp only [if_neg he]; rw [if_pos (by exact he)]

theorem rdInts'_of (l : List Int) (a : Nat) (e most : Int) : rdInts' l a e most = if (rdN' l a e most).2.2 ≠ 0 then ([], a, (rdN' l a e most).2.2) else rdIs l a (rdN' l a e most).1 (rdN' l a e most).2.1 [] := by
  unfold rdInts' rdN' rdInts
  by_cases he : e = 0
  · simp only [if_pos he]
  · simp only [if_neg he]; rw [if_pos (by exact he)]

theorem rdN'_facts (l : List Int) (hb : AllB l) (a : Nat) (e most : Int) : ((rdN' l a e most).2.2 ≠ 0 → (rdN' l a e most).1 = 0 ∧ (rdN' l a e most).2.1 = a) ∧ ((rdN' l a e most).2.2 = 0 → a < (rdN' l a e most).2.1 ∧ (rdN' l a e most).2.1 ≤ l.length ∧ ((rdN' l a e most).1 : Int) ≤ most) := by
  unfold rdN'
  by_cases he : e = 0
  · rw [if_pos he]; exact rdN_facts l hb a most
  · rw [if_neg he]; exact ⟨fun _ => ⟨rfl, rfl⟩, fun h => absurd h he⟩

set_option maxRecDepth 100000 in
set_option maxHeartbeats 2000000 in
theorem rReadN_all (v : Value) (l : List Int) (a : Nat) (e0 most : Int) (w : World) (h : Ints .u8 w v l) (hb : AllB l) (ha : a ≤ l.length) (hl : l.length ≤ 100000) (hm : Ok64 most) :
    Calls Try.prog 98 #[.agg #[v, .int .i64 a, .int .i64 e0], .int .i64 most] w fun e w' => RefR w v (rdN' l a e0 most).2.1 (rdN' l a e0 most).2.2 (.int .i64 (rdN' l a e0 most).1) e w' := by
  have hU := fun W hW => rReadU_all v l a e0 W hW hb ha hl
  have hfc := rdU'_facts l hb a e0
  rw [rdN'_of]
  generalize rdU' l a e0 = r at *
  obtain ⟨n, a', e'⟩ := r
  simp only at hU hfc ⊢
  have HU := Lib.hid hU
  have HI := Lib.hid (h.below (w' := (w.alloc (.cells #[v, .int .i64 a, .int .i64 e0] 56)).alloc (.cells #[.slice none 0 0, .int .i64 0, .int .i64 0] 56)) (by (repeat (first | with_reducible exact Below.refl _ _ | with_reducible refine Bs ?_ | with_reducible refine Ba ?_ | with_reducible refine Bd ?_ | with_reducible refine Bn ?_))))
  obtain ⟨ad, c, rfl⟩ := h.shape
  clear h hU
  unfold Ok64 at hm
  have hn64 : (n : Int) ≤ 18446744073709551615 := by have := hfc.2; omega
  by_cases he : e' = 0
  · subst he
    rw [if_neg (by omega)]
    clear hfc
    by_cases hmost : most < 0 ∨ most < (n : Int)
    · rw [if_pos hmost]
      have hc : most < 0 ∨ (¬ most < 0 ∧ most < (n : Int)) := by omega
      clear hmost
      rcases hc with hc | ⟨hc, hc2⟩
      all_goals
        go_enter Try.func98, Try.ntmps98
        go_wp2_with fail
        refine (HU.out _ HI.out).mono ?_
        rintro e w1 ⟨rfl, hbw⟩
        have c0_0 := hbw.cell (p := ⟨w.heap.size, 0, none⟩) (by first | omega | (simp <;> omega)); have f0_0 := hbw.frozen (p := ⟨w.heap.size, 0, none⟩) (by first | omega | (simp <;> omega)); have c0_1 := hbw.cell (p := ⟨w.heap.size, 1, none⟩) (by first | omega | (simp <;> omega)); have f0_1 := hbw.frozen (p := ⟨w.heap.size, 1, none⟩) (by first | omega | (simp <;> omega)); have c0_2 := hbw.cell (p := ⟨w.heap.size, 2, none⟩) (by first | omega | (simp <;> omega)); have f0_2 := hbw.frozen (p := ⟨w.heap.size, 2, none⟩) (by first | omega | (simp <;> omega)); have c1_0 := hbw.cell (p := ⟨w.heap.size + 1, 0, none⟩) (by first | omega | (simp <;> omega)); have f1_0 := hbw.frozen (p := ⟨w.heap.size + 1, 0, none⟩) (by first | omega | (simp <;> omega)); have c1_1 := hbw.cell (p := ⟨w.heap.size + 1, 1, none⟩) (by first | omega | (simp <;> omega)); have f1_1 := hbw.frozen (p := ⟨w.heap.size + 1, 1, none⟩) (by first | omega | (simp <;> omega)); have c1_2 := hbw.cell (p := ⟨w.heap.size + 1, 2, none⟩) (by first | omega | (simp <;> omega)); have f1_2 := hbw.frozen (p := ⟨w.heap.size + 1, 2, none⟩) (by first | omega | (simp <;> omega))
        have hz0 : w.heap.size < w1.heap.size := (by have := hbw.size; first | omega | (simp at this; omega)); have hy0 : w.heap.size ≠ w1.heap.size := (by omega); have hx0 : w1.heap.size ≠ w.heap.size := (by omega); have hz1 : w.heap.size + 1 < w1.heap.size := (by have := hbw.size; first | omega | (simp at this; omega)); have hy1 : w.heap.size + 1 ≠ w1.heap.size := (by omega); have hx1 : w1.heap.size ≠ w.heap.size + 1 := (by omega)
        go_wp2_with (go_at_call 159; refine (rfail_any _ ad l.length c rfl a e0 211 _).mono ?_; rintro e w2 ⟨rfl, hbw2⟩; have c0_0 := hbw2.cell (p := ⟨w.heap.size, 0, none⟩) (by first | omega | (simp <;> omega)); have f0_0 := hbw2.frozen (p := ⟨w.heap.size, 0, none⟩) (by first | omega | (simp <;> omega)); have c0_1 := hbw2.cell (p := ⟨w.heap.size, 1, none⟩) (by first | omega | (simp <;> omega)); have f0_1 := hbw2.frozen (p := ⟨w.heap.size, 1, none⟩) (by first | omega | (simp <;> omega)); have c0_2 := hbw2.cell (p := ⟨w.heap.size, 2, none⟩) (by first | omega | (simp <;> omega)); have f0_2 := hbw2.frozen (p := ⟨w.heap.size, 2, none⟩) (by first | omega | (simp <;> omega)); have c1_0 := hbw2.cell (p := ⟨w.heap.size + 1, 0, none⟩) (by first | omega | (simp <;> omega)); have f1_0 := hbw2.frozen (p := ⟨w.heap.size + 1, 0, none⟩) (by first | omega | (simp <;> omega)); have c1_1 := hbw2.cell (p := ⟨w.heap.size + 1, 1, none⟩) (by first | omega | (simp <;> omega)); have f1_1 := hbw2.frozen (p := ⟨w.heap.size + 1, 1, none⟩) (by first | omega | (simp <;> omega)); have c1_2 := hbw2.cell (p := ⟨w.heap.size + 1, 2, none⟩) (by first | omega | (simp <;> omega)); have f1_2 := hbw2.frozen (p := ⟨w.heap.size + 1, 2, none⟩) (by first | omega | (simp <;> omega)))
        refine bodyPost_ret (v := .tuple #[.agg #[.slice ad l.length c, .int .i64 a, .int .i64 211], .int .i64 0]) (by simp [results, Try.results98, go_sem, *]) rfl ⟨rfl, ?_⟩
        (repeat (first | with_reducible exact Below.refl _ _ | with_reducible refine Bs ?_ | with_reducible refine Ba ?_ | with_reducible refine Bd ?_ | with_reducible refine Bn ?_ | with_reducible refine Bt hbw2 ?_ | with_reducible refine Bt hbw ?_))
    · rw [if_neg hmost]
      obtain ⟨hm0, hm1⟩ : ¬ most < 0 ∧ ¬ most < (n : Int) := by omega
      have hn63 : (n : Int) ≤ 9223372036854775807 := by omega
      clear hmost
      go_enter Try.func98, Try.ntmps98
      go_wp2_with fail
      refine (HU.out _ HI.out).mono ?_
      rintro e w1 ⟨rfl, hbw⟩
      have c0_0 := hbw.cell (p := ⟨w.heap.size, 0, none⟩) (by first | omega | (simp <;> omega)); have f0_0 := hbw.frozen (p := ⟨w.heap.size, 0, none⟩) (by first | omega | (simp <;> omega)); have c0_1 := hbw.cell (p := ⟨w.heap.size, 1, none⟩) (by first | omega | (simp <;> omega)); have f0_1 := hbw.frozen (p := ⟨w.heap.size, 1, none⟩) (by first | omega | (simp <;> omega)); have c0_2 := hbw.cell (p := ⟨w.heap.size, 2, none⟩) (by first | omega | (simp <;> omega)); have f0_2 := hbw.frozen (p := ⟨w.heap.size, 2, none⟩) (by first | omega | (simp <;> omega)); have c1_0 := hbw.cell (p := ⟨w.heap.size + 1, 0, none⟩) (by first | omega | (simp <;> omega)); have f1_0 := hbw.frozen (p := ⟨w.heap.size + 1, 0, none⟩) (by first | omega | (simp <;> omega)); have c1_1 := hbw.cell (p := ⟨w.heap.size + 1, 1, none⟩) (by first | omega | (simp <;> omega)); have f1_1 := hbw.frozen (p := ⟨w.heap.size + 1, 1, none⟩) (by first | omega | (simp <;> omega)); have c1_2 := hbw.cell (p := ⟨w.heap.size + 1, 2, none⟩) (by first | omega | (simp <;> omega)); have f1_2 := hbw.frozen (p := ⟨w.heap.size + 1, 2, none⟩) (by first | omega | (simp <;> omega))
      have hz0 : w.heap.size < w1.heap.size := (by have := hbw.size; first | omega | (simp at this; omega)); have hy0 : w.heap.size ≠ w1.heap.size := (by omega); have hx0 : w1.heap.size ≠ w.heap.size := (by omega); have hz1 : w.heap.size + 1 < w1.heap.size := (by have := hbw.size; first | omega | (simp at this; omega)); have hy1 : w.heap.size + 1 ≠ w1.heap.size := (by omega); have hx1 : w1.heap.size ≠ w.heap.size + 1 := (by omega)
      go_wp2
      refine bodyPost_ret (v := .tuple #[.agg #[.slice ad l.length c, .int .i64 a', .int .i64 0], .int .i64 n]) (by simp [results, Try.results98, go_sem, *]) rfl ⟨rfl, ?_⟩
      (repeat (first | with_reducible exact Below.refl _ _ | with_reducible refine Bs ?_ | with_reducible refine Ba ?_ | with_reducible refine Bd ?_ | with_reducible refine Bn ?_ | with_reducible refine Bt hbw ?_))
  · obtain ⟨h1, h2⟩ := hfc.1 he
    subst h1 h2
    rw [if_pos he]
    have hne : (e' != 0) = true := by simpa using he
    clear hfc he
    go_enter Try.func98, Try.ntmps98
    go_wp2_with fail
    refine (HU.out _ HI.out).mono ?_
    rintro e w1 ⟨rfl, hbw⟩
    have c0_0 := hbw.cell (p := ⟨w.heap.size, 0, none⟩) (by first | omega | (simp <;> omega)); have f0_0 := hbw.frozen (p := ⟨w.heap.size, 0, none⟩) (by first | omega | (simp <;> omega)); have c0_1 := hbw.cell (p := ⟨w.heap.size, 1, none⟩) (by first | omega | (simp <;> omega)); have f0_1 := hbw.frozen (p := ⟨w.heap.size, 1, none⟩) (by first | omega | (simp <;> omega)); have c0_2 := hbw.cell (p := ⟨w.heap.size, 2, none⟩) (by first | omega | (simp <;> omega)); have f0_2 := hbw.frozen (p := ⟨w.heap.size, 2, none⟩) (by first | omega | (simp <;> omega)); have c1_0 := hbw.cell (p := ⟨w.heap.size + 1, 0, none⟩) (by first | omega | (simp <;> omega)); have f1_0 := hbw.frozen (p := ⟨w.heap.size + 1, 0, none⟩) (by first | omega | (simp <;> omega)); have c1_1 := hbw.cell (p := ⟨w.heap.size + 1, 1, none⟩) (by first | omega | (simp <;> omega)); have f1_1 := hbw.frozen (p := ⟨w.heap.size + 1, 1, none⟩) (by first | omega | (simp <;> omega)); have c1_2 := hbw.cell (p := ⟨w.heap.size + 1, 2, none⟩) (by first | omega | (simp <;> omega)); have f1_2 := hbw.frozen (p := ⟨w.heap.size + 1, 2, none⟩) (by first | omega | (simp <;> omega))
    have hz0 : w.heap.size < w1.heap.size := (by have := hbw.size; first | omega | (simp at this; omega)); have hy0 : w.heap.size ≠ w1.heap.size := (by omega); have hx0 : w1.heap.size ≠ w.heap.size := (by omega); have hz1 : w.heap.size + 1 < w1.heap.size := (by have := hbw.size; first | omega | (simp at this; omega)); have hy1 : w.heap.size + 1 ≠ w1.heap.size := (by omega); have hx1 : w1.heap.size ≠ w.heap.size + 1 := (by omega)
    go_wp2
    refine bodyPost_ret (v := .tuple #[.agg #[.slice ad l.length c, .int .i64 a', .int .i64 e'], .int .i64 0]) (by simp [results, Try.results98, go_sem, *]) rfl ⟨rfl, ?_⟩
    (repeat (first | with_reducible exact Below.refl _ _ | with_reducible refine Bs ?_ | with_reducible refine Ba ?_ | with_reducible refine Bd ?_ | with_reducible refine Bn ?_ | with_reducible refine Bt hbw ?_))
end Go.Proofs.Ytjmjnkilgoelbaa

namespace Go.Proofs.Ytjmjnkilgoelbaa
open Go.RowKit

theorem ret_agg {v u : Value} {a b e : Int} (h : a = b) : Ending.returned (.tuple #[.agg #[v, .int .i64 a, .int .i64 e], u]) = .returned (.tuple #[.agg #[v, .int .i64 b, .int .i64 e], u]) := by rw [h]

set_option maxRecDepth 100000 in
set_option maxHeartbeats 2000000 in
theorem rReadI_all (v : Value) (l : List Int) (a : Nat) (e0 : Int) (w : World) (h : Ints .u8 w v l) (hb : AllB l) (ha : a ≤ l.length) (hl : l.length ≤ 100000) :
    Calls Try.prog 122 #[.agg #[v, .int .i64 a, .int .i64 e0]] w fun e w' => RefR w v (rdI' l a e0).2.1 (rdI' l a e0).2.2 (.int .i64 (rdI' l a e0).1) e w' := by
  have hU := fun W hW => rReadU_all v l a e0 W hW hb ha hl
  have hfc := (rdU'_facts l hb a e0).2
  rw [rdI'_of]
  generalize rdU' l a e0 = r at *
  obtain ⟨n, a', e'⟩ := r
  simp only at hU hfc ⊢
  have HU := Lib.hid hU
  have HI := Lib.hid (h.below (w' := (w.alloc (.cells #[v, .int .i64 a, .int .i64 e0] 56)).alloc (.cells #[.slice none 0 0, .int .i64 0, .int .i64 0] 56)) (by (repeat (first | with_reducible exact Below.refl _ _ | with_reducible refine Bs ?_ | with_reducible refine Ba ?_ | with_reducible refine Bd ?_ | with_reducible refine Bn ?_))))
  obtain ⟨ad, c, rfl⟩ := h.shape
  have hn64 : (n : Int) ≤ 18446744073709551615 := by omega
  clear h hU hfc
  by_cases h1 : n % 2 = 1
  · rw [unzig, if_pos h1]
    have hb1 : ((n : Int) % 2 == 1) = true := by simp; omega
    have H1 := Lib.hid h1
    clear h1
    go_enter Try.func122, Try.ntmps122
    go_wp2_with fail
    refine (HU.out _ HI.out).mono ?_
    rintro e w1 ⟨rfl, hbw⟩
    have c0_0 := hbw.cell (p := ⟨w.heap.size, 0, none⟩) (by first | omega | (simp <;> omega)); have f0_0 := hbw.frozen (p := ⟨w.heap.size, 0, none⟩) (by first | omega | (simp <;> omega)); have c0_1 := hbw.cell (p := ⟨w.heap.size, 1, none⟩) (by first | omega | (simp <;> omega)); have f0_1 := hbw.frozen (p := ⟨w.heap.size, 1, none⟩) (by first | omega | (simp <;> omega)); have c0_2 := hbw.cell (p := ⟨w.heap.size, 2, none⟩) (by first | omega | (simp <;> omega)); have f0_2 := hbw.frozen (p := ⟨w.heap.size, 2, none⟩) (by first | omega | (simp <;> omega)); have c1_0 := hbw.cell (p := ⟨w.heap.size + 1, 0, none⟩) (by first | omega | (simp <;> omega)); have f1_0 := hbw.frozen (p := ⟨w.heap.size + 1, 0, none⟩) (by first | omega | (simp <;> omega)); have c1_1 := hbw.cell (p := ⟨w.heap.size + 1, 1, none⟩) (by first | omega | (simp <;> omega)); have f1_1 := hbw.frozen (p := ⟨w.heap.size + 1, 1, none⟩) (by first | omega | (simp <;> omega)); have c1_2 := hbw.cell (p := ⟨w.heap.size + 1, 2, none⟩) (by first | omega | (simp <;> omega)); have f1_2 := hbw.frozen (p := ⟨w.heap.size + 1, 2, none⟩) (by first | omega | (simp <;> omega))
    have hz0 : w.heap.size < w1.heap.size := (by have := hbw.size; first | omega | (simp at this; omega)); have hy0 : w.heap.size ≠ w1.heap.size := (by omega); have hx0 : w1.heap.size ≠ w.heap.size := (by omega); have hz1 : w.heap.size + 1 < w1.heap.size := (by have := hbw.size; first | omega | (simp at this; omega)); have hy1 : w.heap.size + 1 ≠ w1.heap.size := (by omega); have hx1 : w1.heap.size ≠ w.heap.size + 1 := (by omega)
    go_wp2
    refine bodyPost_ret (v := .tuple #[.agg #[.slice ad l.length c, .int .i64 a', .int .i64 e'], .int .i64 (-((n : Int) / 2) - 1)]) (by simp [results, Try.results122, go_sem, *]) rfl ⟨?_, ?_⟩
    · rw [show -((n / 2 : Nat) : Int) - 1 = -((n : Int) / 2) - 1 by omega]
    · (repeat (first | with_reducible exact Below.refl _ _ | with_reducible refine Bs ?_ | with_reducible refine Ba ?_ | with_reducible refine Bd ?_ | with_reducible refine Bn ?_ | with_reducible refine Bt hbw ?_))
  · rw [unzig, if_neg h1]
    have hb1 : ((n : Int) % 2 == 1) = false := by simp; omega
    have H1 := Lib.hid h1
    clear h1
    go_enter Try.func122, Try.ntmps122
    go_wp2_with fail
    refine (HU.out _ HI.out).mono ?_
    rintro e w1 ⟨rfl, hbw⟩
    have c0_0 := hbw.cell (p := ⟨w.heap.size, 0, none⟩) (by first | omega | (simp <;> omega)); have f0_0 := hbw.frozen (p := ⟨w.heap.size, 0, none⟩) (by first | omega | (simp <;> omega)); have c0_1 := hbw.cell (p := ⟨w.heap.size, 1, none⟩) (by first | omega | (simp <;> omega)); have f0_1 := hbw.frozen (p := ⟨w.heap.size, 1, none⟩) (by first | omega | (simp <;> omega)); have c0_2 := hbw.cell (p := ⟨w.heap.size, 2, none⟩) (by first | omega | (simp <;> omega)); have f0_2 := hbw.frozen (p := ⟨w.heap.size, 2, none⟩) (by first | omega | (simp <;> omega)); have c1_0 := hbw.cell (p := ⟨w.heap.size + 1, 0, none⟩) (by first | omega | (simp <;> omega)); have f1_0 := hbw.frozen (p := ⟨w.heap.size + 1, 0, none⟩) (by first | omega | (simp <;> omega)); have c1_1 := hbw.cell (p := ⟨w.heap.size + 1, 1, none⟩) (by first | omega | (simp <;> omega)); have f1_1 := hbw.frozen (p := ⟨w.heap.size + 1, 1, none⟩) (by first | omega | (simp <;> omega)); have c1_2 := hbw.cell (p := ⟨w.heap.size + 1, 2, none⟩) (by first | omega | (simp <;> omega)); have f1_2 := hbw.frozen (p := ⟨w.heap.size + 1, 2, none⟩) (by first | omega | (simp <;> omega))
    have hz0 : w.heap.size < w1.heap.size := (by have := hbw.size; first | omega | (simp at this; omega)); have hy0 : w.heap.size ≠ w1.heap.size := (by omega); have hx0 : w1.heap.size ≠ w.heap.size := (by omega); have hz1 : w.heap.size + 1 < w1.heap.size := (by have := hbw.size; first | omega | (simp at this; omega)); have hy1 : w.heap.size + 1 ≠ w1.heap.size := (by omega); have hx1 : w1.heap.size ≠ w.heap.size + 1 := (by omega)
    go_wp2
    refine bodyPost_ret (v := .tuple #[.agg #[.slice ad l.length c, .int .i64 a', .int .i64 e'], .int .i64 ((n : Int) / 2)]) (by simp [results, Try.results122, go_sem, *]) rfl ⟨?_, ?_⟩
    · rw [show ((n / 2 : Nat) : Int) = (n : Int) / 2 by omega]
    · (repeat (first | with_reducible exact Below.refl _ _ | with_reducible refine Bs ?_ | with_reducible refine Ba ?_ | with_reducible refine Bd ?_ | with_reducible refine Bn ?_ | with_reducible refine Bt hbw ?_))

set_option maxRecDepth 100000 in
theorem rFail_all (v : Value) (ad : Option Addr) (n c : Nat) (hv : v = .slice ad n c) (a e0 x : Int) (w : World) :
    Calls Try.prog 121 #[.agg #[v, .int .i64 a, .int .i64 e0], .int .i64 x] w fun e w' => e = .returned (.agg #[v, .int .i64 a, .int .i64 (failE e0 x)]) ∧ Below w.heap.size w w' := by
  subst hv
  by_cases he : e0 = 0
  · subst he
    by_cases hx : x = 0
    · subst hx
      rw [failE, if_pos rfl, if_pos rfl]
      go_enter Try.func121, Try.ntmps121
      go_wp2_with (go_at_call 159; refine (rfail_any _ ad n c rfl a 0 211 _).mono ?_; rintro e w1 ⟨rfl, hbw⟩; have c0_0 := hbw.cell (p := ⟨w.heap.size, 0, none⟩) (by first | omega | (simp <;> omega)); have f0_0 := hbw.frozen (p := ⟨w.heap.size, 0, none⟩) (by first | omega | (simp <;> omega)); have c0_1 := hbw.cell (p := ⟨w.heap.size, 1, none⟩) (by first | omega | (simp <;> omega)); have f0_1 := hbw.frozen (p := ⟨w.heap.size, 1, none⟩) (by first | omega | (simp <;> omega)); have c0_2 := hbw.cell (p := ⟨w.heap.size, 2, none⟩) (by first | omega | (simp <;> omega)); have f0_2 := hbw.frozen (p := ⟨w.heap.size, 2, none⟩) (by first | omega | (simp <;> omega)); have c1_0 := hbw.cell (p := ⟨w.heap.size + 1, 0, none⟩) (by first | omega | (simp <;> omega)); have f1_0 := hbw.frozen (p := ⟨w.heap.size + 1, 0, none⟩) (by first | omega | (simp <;> omega)); have c1_1 := hbw.cell (p := ⟨w.heap.size + 1, 1, none⟩) (by first | omega | (simp <;> omega)); have f1_1 := hbw.frozen (p := ⟨w.heap.size + 1, 1, none⟩) (by first | omega | (simp <;> omega)); have c1_2 := hbw.cell (p := ⟨w.heap.size + 1, 2, none⟩) (by first | omega | (simp <;> omega)); have f1_2 := hbw.frozen (p := ⟨w.heap.size + 1, 2, none⟩) (by first | omega | (simp <;> omega)))
      refine bodyPost_ret (v := .agg #[.slice ad n c, .int .i64 a, .int .i64 211]) (by simp [results, Try.results121, go_sem, *]) rfl ⟨rfl, ?_⟩
      (repeat (first | with_reducible exact Below.refl _ _ | with_reducible refine Bs ?_ | with_reducible refine Ba ?_ | with_reducible refine Bd ?_ | with_reducible refine Bn ?_ | with_reducible refine Bt hbw ?_))
    · rw [failE, if_pos rfl, if_neg hx]
      have hxb : (x == 0) = false := by simpa using hx
      clear hx
      go_enter Try.func121, Try.ntmps121
      go_wp2_with (go_at_call 159; refine (rfail_any _ ad n c rfl a 0 x _).mono ?_; rintro e w1 ⟨rfl, hbw⟩; have c0_0 := hbw.cell (p := ⟨w.heap.size, 0, none⟩) (by first | omega | (simp <;> omega)); have f0_0 := hbw.frozen (p := ⟨w.heap.size, 0, none⟩) (by first | omega | (simp <;> omega)); have c0_1 := hbw.cell (p := ⟨w.heap.size, 1, none⟩) (by first | omega | (simp <;> omega)); have f0_1 := hbw.frozen (p := ⟨w.heap.size, 1, none⟩) (by first | omega | (simp <;> omega)); have c0_2 := hbw.cell (p := ⟨w.heap.size, 2, none⟩) (by first | omega | (simp <;> omega)); have f0_2 := hbw.frozen (p := ⟨w.heap.size, 2, none⟩) (by first | omega | (simp <;> omega)); have c1_0 := hbw.cell (p := ⟨w.heap.size + 1, 0, none⟩) (by first | omega | (simp <;> omega)); have f1_0 := hbw.frozen (p := ⟨w.heap.size + 1, 0, none⟩) (by first | omega | (simp <;> omega)); have c1_1 := hbw.cell (p := ⟨w.heap.size + 1, 1, none⟩) (by first | omega | (simp <;> omega)); have f1_1 := hbw.frozen (p := ⟨w.heap.size + 1, 1, none⟩) (by first | omega | (simp <;> omega)); have c1_2 := hbw.cell (p := ⟨w.heap.size + 1, 2, none⟩) (by first | omega | (simp <;> omega)); have f1_2 := hbw.frozen (p := ⟨w.heap.size + 1, 2, none⟩) (by first | omega | (simp <;> omega)))
      refine bodyPost_ret (v := .agg #[.slice ad n c, .int .i64 a, .int .i64 x]) (by simp [results, Try.results121, go_sem, *]) rfl ⟨rfl, ?_⟩
      (repeat (first | with_reducible exact Below.refl _ _ | with_reducible refine Bs ?_ | with_reducible refine Ba ?_ | with_reducible refine Bd ?_ | with_reducible refine Bn ?_ | with_reducible refine Bt hbw ?_))
  · rw [failE, if_neg he]
    have hne : (e0 != 0) = true := by simpa using he
    clear he
    go_enter Try.func121, Try.ntmps121
    go_wp2
    refine bodyPost_ret (v := .agg #[.slice ad n c, .int .i64 a, .int .i64 e0]) (by simp [results, Try.results121, go_sem]) rfl ⟨rfl, ?_⟩
    (repeat (first | with_reducible exact Below.refl _ _ | with_reducible refine Bs ?_ | with_reducible refine Ba ?_ | with_reducible refine Bd ?_ | with_reducible refine Bn ?_))

end Go.Proofs.Ytjmjnkilgoelbaa

namespace Go.Proofs.Ytjmjnkilgoelbaa
open Go.RowKit

theorem fresh_nil (B n c : Nat) : Fresh B (.slice none n c) := fun a n c e _ => by cases e

theorem OwnI.app' {w : World} {base : Nat} {v' : Value} {acc : List Int} {x : Int} (h : w.ownsRow base 3 1 v' (acc.length + 1) (acc.map (Value.int .i64) ++ (#[Value.int .i64 x] : Array Value).toList)) : w.ownsRow base 3 1 v' (acc ++ [x]).length ((acc ++ [x]).map (Value.int .i64)) := by simpa using h

/-- A list is being read by value: w1 the world before the loop, S the block of the reader that moves. -/
def InS (w1 : World) (S : Nat) (v : Value) (l : List Int) (a n : Nat) (X : List Int × Nat × Int) (out i : Value) (wr : World) : Prop :=
  ∃ (k p : Nat) (e : Int) (acc : List Int), i = .int .i64 k ∧ k ≤ n ∧ wr.ownsRow (S + 1) 3 1 out acc.length (acc.map (Value.int .i64)) ∧ acc.length ≤ p + 1 ∧ p ≤ l.length ∧
    wr.cell? ⟨S, 0, none⟩ = some v ∧ wr.cell? ⟨S, 1, none⟩ = some (.int .i64 p) ∧ wr.cell? ⟨S, 2, none⟩ = some (.int .i64 e) ∧
    wr.frozen? ⟨S, 0, none⟩ = false ∧ wr.frozen? ⟨S, 1, none⟩ = false ∧ wr.frozen? ⟨S, 2, none⟩ = false ∧ S < wr.heap.size ∧ Below S w1 wr ∧
    ((e = 0 ∧ acc.length ≤ p ∧ rdIs l a (n - k) p acc = X) ∨ (e ≠ 0 ∧ X = ([], a, e)))

set_option maxRecDepth 100000 in
set_option maxHeartbeats 4000000 in
theorem rReadInts_all (v : Value) (l : List Int) (a : Nat) (e0 most : Int) (w : World) (h : Ints .u8 w v l) (hb : AllB l) (ha : a ≤ l.length) (hl : l.length ≤ 100000) (hm : Ok64 most) :
    Calls Try.prog 109 #[.agg #[v, .int .i64 a, .int .i64 e0], .int .i64 most] w fun e w' => ∃ v', RefR w v (rdInts' l a e0 most).2.1 (rdInts' l a e0 most).2.2 v' e w' ∧ Ints .i64 w' v' (rdInts' l a e0 most).1 ∧ Fresh w.heap.size v' := by
  have hN := fun W hW => rReadN_all v l a e0 most W hW hb ha hl hm
  have hfc := rdN'_facts l hb a e0 most
  obtain ⟨X, hX⟩ : ∃ X, rdInts' l a e0 most = X := ⟨_, rfl⟩
  rw [hX]
  rw [rdInts'_of] at hX
  generalize rdN' l a e0 most = r at *
  obtain ⟨n, a', e'⟩ := r
  simp only at hN hfc hX ⊢
  have HN := Lib.hid hN
  have HX := Lib.hid hX
  have HF := Lib.hid hfc
  have hn64 : (n : Int) ≤ 9223372036854775807 := by
    unfold Ok64 at hm
    by_cases he : e' = 0
    · have := (hfc.2 he).2.2; omega
    · have := (hfc.1 he).1; omega
  have ha' : a' ≤ l.length := by
    by_cases he : e' = 0
    · exact (hfc.2 he).2.1
    · have := (hfc.1 he).2; omega
  have HI := Lib.hid (h.below (w' := (w.alloc (.cells #[v, .int .i64 a, .int .i64 e0] 56)).alloc (.cells #[.slice none 0 0, .int .i64 0, .int .i64 0] 56)) (by (repeat (first | with_reducible exact Below.refl _ _ | with_reducible refine Bs ?_ | with_reducible refine Ba ?_ | with_reducible refine Bd ?_ | with_reducible refine Bn ?_))))
  have H0 := Lib.hid h
  obtain ⟨ad, c, rfl, g1, g2, g3, _⟩ := h
  clear hN hX hfc
  go_enter Try.func109, Try.ntmps109
  go_wp2_with fail
  refine (HN.out _ HI.out).mono ?_
  rintro e w1 ⟨rfl, hbw⟩
  have c0_0 := hbw.cell (p := ⟨w.heap.size, 0, none⟩) (by first | omega | (simp <;> omega)); have f0_0 := hbw.frozen (p := ⟨w.heap.size, 0, none⟩) (by first | omega | (simp <;> omega)); have c0_1 := hbw.cell (p := ⟨w.heap.size, 1, none⟩) (by first | omega | (simp <;> omega)); have f0_1 := hbw.frozen (p := ⟨w.heap.size, 1, none⟩) (by first | omega | (simp <;> omega)); have c0_2 := hbw.cell (p := ⟨w.heap.size, 2, none⟩) (by first | omega | (simp <;> omega)); have f0_2 := hbw.frozen (p := ⟨w.heap.size, 2, none⟩) (by first | omega | (simp <;> omega)); have c1_0 := hbw.cell (p := ⟨w.heap.size + 1, 0, none⟩) (by first | omega | (simp <;> omega)); have f1_0 := hbw.frozen (p := ⟨w.heap.size + 1, 0, none⟩) (by first | omega | (simp <;> omega)); have c1_1 := hbw.cell (p := ⟨w.heap.size + 1, 1, none⟩) (by first | omega | (simp <;> omega)); have f1_1 := hbw.frozen (p := ⟨w.heap.size + 1, 1, none⟩) (by first | omega | (simp <;> omega)); have c1_2 := hbw.cell (p := ⟨w.heap.size + 1, 2, none⟩) (by first | omega | (simp <;> omega)); have f1_2 := hbw.frozen (p := ⟨w.heap.size + 1, 2, none⟩) (by first | omega | (simp <;> omega))
  have hz0 : w.heap.size < w1.heap.size := (by have := hbw.size; first | omega | (simp at this; omega)); have hy0 : w.heap.size ≠ w1.heap.size := (by omega); have hx0 : w1.heap.size ≠ w.heap.size := (by omega); have hz1 : w.heap.size + 1 < w1.heap.size := (by have := hbw.size; first | omega | (simp at this; omega)); have hy1 : w.heap.size + 1 ≠ w1.heap.size := (by omega); have hx1 : w1.heap.size ≠ w.heap.size + 1 := (by omega)
  have HB1 := Lib.hid hbw
  have I1 := Lib.hid (HI.out.below hbw)
  go_wp2_with fail
  go_loopw [8, 9, 10, 11] (fun out i _ _ wr => InS w1 w1.heap.size (.slice ad l.length c) l a n X out i wr) (fun _ i _ _ _ => n - (intOf i).toNat)
  case atStart =>
    refine ⟨0, a', e', [], rfl, Nat.zero_le _, World.ownsRow_nil _ _ _ _, by simp, ha', by go_simp, by go_simp, by go_simp, by go_simp, by go_simp, by go_simp, by simp, by (repeat (first | with_reducible exact Below.refl _ _ | with_reducible refine Bs ?_ | with_reducible refine Ba ?_ | with_reducible refine Bd ?_ | with_reducible refine Bn ?_)), ?_⟩
    by_cases he : e' = 0
    · have hx := HX.out
      rw [if_neg (by omega)] at hx
      exact .inl ⟨he, by simp, by simpa using hx⟩
    · have hx := HX.out
      rw [if_pos he] at hx
      exact .inr ⟨he, hx.symm⟩
  case round =>
    obtain ⟨k, p, e1, acc, rfl, hk, ho, hap, hpl, d0, d1, d2, g0, g1, g2, hsz, hb1, hcase⟩ := hrel
    have HO := Lib.hid ho; have HC := Lib.hid hcase; have HBR := Lib.hid hb1
    clear ho hcase hb1
    by_cases hlt : k < n
    · by_cases he : e1 = 0
      · subst he
        have hlt' : (k : Int) < n := by omega
        have hI := rReadI_all (.slice ad l.length c) l p 0 wr (I1.out.below HBR.out) hb hpl hl
        rw [rdI', if_pos rfl] at hI
        have hx : acc.length ≤ p ∧ rdIs l a (n - k) p acc = X := by
          rcases HC.out with ⟨_, h1, h2⟩ | ⟨h1, _⟩
          · exact ⟨h1, h2⟩
          · exact absurd rfl h1
        have hxx := hx.2
        rw [show n - k = (n - (k + 1)) + 1 by omega, rdIs] at hxx
        have hif := rdI_facts l hb p
        generalize rdI l p = r at *
        obtain ⟨x, p', e2⟩ := r
        simp only at hI hif hxx
        have HI2 := Lib.hid hI; have HXX := Lib.hid hxx; have HIF := Lib.hid hif; have HAC := Lib.hid hx.1
        clear hI hxx hif hx HC
        go_wp2_with fail
        refine HI2.out.mono ?_
        rintro e w2 ⟨rfl, hb2⟩
        have c0_0 := hb2.cell (p := ⟨w1.heap.size, 0, none⟩) (by first | omega | (simp <;> omega)); have f0_0 := hb2.frozen (p := ⟨w1.heap.size, 0, none⟩) (by first | omega | (simp <;> omega)); have c0_1 := hb2.cell (p := ⟨w1.heap.size, 1, none⟩) (by first | omega | (simp <;> omega)); have f0_1 := hb2.frozen (p := ⟨w1.heap.size, 1, none⟩) (by first | omega | (simp <;> omega)); have c0_2 := hb2.cell (p := ⟨w1.heap.size, 2, none⟩) (by first | omega | (simp <;> omega)); have f0_2 := hb2.frozen (p := ⟨w1.heap.size, 2, none⟩) (by first | omega | (simp <;> omega))
        have hz0 : w1.heap.size < w2.heap.size := (by have := hb2.size; first | omega | (simp at this; omega)); have hy0 : w1.heap.size ≠ w2.heap.size := (by omega); have hx0 : w2.heap.size ≠ w1.heap.size := (by omega)
        have HO2 := Lib.hid (own_keep HO.out fun g _ h2 => hb2.block g h2)
        have HB2 := Lib.hid (HBR.out.trans (hb2.mono (Nat.le_of_lt hsz)))
        have HS2 := Lib.hid hb2.size
        go_wp2_with (at_builtin; go_must (refine app1 rfl _ _ 61 rfl Try.underlying61 eiInt (w1.heap.size + 1) (by rfl) (own_keep HO2.out ?_) (C := 1) (by simp [Act.eval]) rfl (by simp [Value.oneCell']) (by omega) (by simp; omega) ?_))
        · intro g h1 h2
          repeat (first | exact rfl | refine (Below.heap_setCell _ _ _ _ (by first | omega | (simp; omega))).trans ?_ | refine (Below.heap_alloc _ _ _ (by first | omega | (simp; omega))).trans ?_)
        intro v3 w3 ho3 hb3 hg3
        have c0_0 := hb3.cell (p := ⟨w1.heap.size, 0, none⟩) (by first | omega | (simp <;> omega)); have f0_0 := hb3.frozen (p := ⟨w1.heap.size, 0, none⟩) (by first | omega | (simp <;> omega)); have c0_1 := hb3.cell (p := ⟨w1.heap.size, 1, none⟩) (by first | omega | (simp <;> omega)); have f0_1 := hb3.frozen (p := ⟨w1.heap.size, 1, none⟩) (by first | omega | (simp <;> omega)); have c0_2 := hb3.cell (p := ⟨w1.heap.size, 2, none⟩) (by first | omega | (simp <;> omega)); have f0_2 := hb3.frozen (p := ⟨w1.heap.size, 2, none⟩) (by first | omega | (simp <;> omega))
        have HO3 := Lib.hid (OwnI.app' ho3)
        have hsz3 : w1.heap.size < w3.heap.size := by have := hb3.size; simp at this; omega
        have HB3 := Lib.hid (below_tr (by (repeat (first | with_reducible exact Below.refl _ _ | with_reducible refine Bs ?_ | with_reducible refine Ba ?_ | with_reducible refine Bd ?_ | with_reducible refine Bn ?_ | with_reducible refine Bt HB2.out ?_))) (hb3.mono (Nat.le_succ _)) : Below w1.heap.size w1 w3)
        clear ho3 hb3
        have hap2 : (acc ++ [x]).length ≤ p' + 1 ∧ p' ≤ l.length ∧ ((e2 = 0 ∧ (acc ++ [x]).length ≤ p' ∧ rdIs l a (n - (k + 1)) p' (acc ++ [x]) = X) ∨ (e2 ≠ 0 ∧ X = ([], a, e2))) := by
          have h1 := HAC.out; have h2 := HIF.out; have h3 := HXX.out
          by_cases he : e2 = 0
          · have := h2.2 he
            rw [if_neg (by omega)] at h3
            exact ⟨by simp; omega, this.2, .inl ⟨he, by simp; omega, h3⟩⟩
          · have := (h2.1 he).2
            rw [if_pos he] at h3
            exact ⟨by simp; omega, by omega, .inr ⟨he, h3.symm⟩⟩
        have HAP := Lib.hid hap2
        clear hap2
        go_wp2
        go_roundw
        case rel => exact ⟨k + 1, p', e2, acc ++ [x], by go_num, by omega, HO3.out, HAP.out.1, HAP.out.2.1, by go_simp, by go_simp, by go_simp, by go_simp, by go_simp, by go_simp, hsz3, HB3.out, HAP.out.2.2⟩
        case measure => simp [intOf] <;> omega
      · have hlt' : (k : Int) < n := by omega
        have hx : X = ([], a, e1) := by
          rcases HC.out with ⟨h1, _⟩ | ⟨_, h1⟩
          · exact absurd h1 he
          · exact h1
        subst hx
        have hne : (e1 != 0) = true := by simpa using he
        have heq : (e1 == 0) = false := by simpa using he
        have hHB := HBR.out
        have c0_0 := hHB.cell (p := ⟨w.heap.size, 0, none⟩) (by first | omega | (simp <;> omega)); have f0_0 := hHB.frozen (p := ⟨w.heap.size, 0, none⟩) (by first | omega | (simp <;> omega)); have c0_1 := hHB.cell (p := ⟨w.heap.size, 1, none⟩) (by first | omega | (simp <;> omega)); have f0_1 := hHB.frozen (p := ⟨w.heap.size, 1, none⟩) (by first | omega | (simp <;> omega)); have c0_2 := hHB.cell (p := ⟨w.heap.size, 2, none⟩) (by first | omega | (simp <;> omega)); have f0_2 := hHB.frozen (p := ⟨w.heap.size, 2, none⟩) (by first | omega | (simp <;> omega)); have c1_0 := hHB.cell (p := ⟨w.heap.size + 1, 0, none⟩) (by first | omega | (simp <;> omega)); have f1_0 := hHB.frozen (p := ⟨w.heap.size + 1, 0, none⟩) (by first | omega | (simp <;> omega)); have c1_1 := hHB.cell (p := ⟨w.heap.size + 1, 1, none⟩) (by first | omega | (simp <;> omega)); have f1_1 := hHB.frozen (p := ⟨w.heap.size + 1, 1, none⟩) (by first | omega | (simp <;> omega)); have c1_2 := hHB.cell (p := ⟨w.heap.size + 1, 2, none⟩) (by first | omega | (simp <;> omega)); have f1_2 := hHB.frozen (p := ⟨w.heap.size + 1, 2, none⟩) (by first | omega | (simp <;> omega))
        clear he HX HC
        have hz9 : w.heap.size + 1 < wr.heap.size := by omega
        go_wp2_with (go_at_call 159; refine (rfail_any _ ad l.length c rfl a e0 e1 _).mono ?_; rintro e w2 ⟨rfl, hbw2⟩; have c0_0 := hbw2.cell (p := ⟨w.heap.size, 0, none⟩) (by first | omega | (simp <;> omega)); have f0_0 := hbw2.frozen (p := ⟨w.heap.size, 0, none⟩) (by first | omega | (simp <;> omega)); have c0_1 := hbw2.cell (p := ⟨w.heap.size, 1, none⟩) (by first | omega | (simp <;> omega)); have f0_1 := hbw2.frozen (p := ⟨w.heap.size, 1, none⟩) (by first | omega | (simp <;> omega)); have c0_2 := hbw2.cell (p := ⟨w.heap.size, 2, none⟩) (by first | omega | (simp <;> omega)); have f0_2 := hbw2.frozen (p := ⟨w.heap.size, 2, none⟩) (by first | omega | (simp <;> omega)); have c1_0 := hbw2.cell (p := ⟨w.heap.size + 1, 0, none⟩) (by first | omega | (simp <;> omega)); have f1_0 := hbw2.frozen (p := ⟨w.heap.size + 1, 0, none⟩) (by first | omega | (simp <;> omega)); have c1_1 := hbw2.cell (p := ⟨w.heap.size + 1, 1, none⟩) (by first | omega | (simp <;> omega)); have f1_1 := hbw2.frozen (p := ⟨w.heap.size + 1, 1, none⟩) (by first | omega | (simp <;> omega)); have c1_2 := hbw2.cell (p := ⟨w.heap.size + 1, 2, none⟩) (by first | omega | (simp <;> omega)); have f1_2 := hbw2.frozen (p := ⟨w.heap.size + 1, 2, none⟩) (by first | omega | (simp <;> omega)))
        refine bodyPost_ret (v := .tuple #[.agg #[.slice ad l.length c, .int .i64 a, .int .i64 e1], .slice none 0 0]) (by simp [results, Try.results109, go_sem, *]) rfl ⟨_, ⟨rfl, ?_⟩, ints_nil _ _ _ _ (by omega), fresh_nil _ _ _⟩
        (repeat (first | with_reducible exact Below.refl _ _ | with_reducible refine Bs ?_ | with_reducible refine Ba ?_ | with_reducible refine Bd ?_ | with_reducible refine Bn ?_ | with_reducible refine Bt hbw2 ?_ | with_reducible refine Bt hHB ?_ | with_reducible refine Bt HB1.out ?_))
    · obtain rfl : k = n := by omega
      by_cases he : e1 = 0
      · subst he
        have hx : X = (acc, p, 0) := by
          rcases HC.out with ⟨_, _, h1⟩ | ⟨h1, _⟩
          · rw [Nat.sub_self, rdIs] at h1; exact h1.symm
          · exact absurd rfl h1
        subst hx
        have hHB := HBR.out
        have c0_0 := hHB.cell (p := ⟨w.heap.size, 0, none⟩) (by first | omega | (simp <;> omega)); have f0_0 := hHB.frozen (p := ⟨w.heap.size, 0, none⟩) (by first | omega | (simp <;> omega)); have c0_1 := hHB.cell (p := ⟨w.heap.size, 1, none⟩) (by first | omega | (simp <;> omega)); have f0_1 := hHB.frozen (p := ⟨w.heap.size, 1, none⟩) (by first | omega | (simp <;> omega)); have c0_2 := hHB.cell (p := ⟨w.heap.size, 2, none⟩) (by first | omega | (simp <;> omega)); have f0_2 := hHB.frozen (p := ⟨w.heap.size, 2, none⟩) (by first | omega | (simp <;> omega)); have c1_0 := hHB.cell (p := ⟨w.heap.size + 1, 0, none⟩) (by first | omega | (simp <;> omega)); have f1_0 := hHB.frozen (p := ⟨w.heap.size + 1, 0, none⟩) (by first | omega | (simp <;> omega)); have c1_1 := hHB.cell (p := ⟨w.heap.size + 1, 1, none⟩) (by first | omega | (simp <;> omega)); have f1_1 := hHB.frozen (p := ⟨w.heap.size + 1, 1, none⟩) (by first | omega | (simp <;> omega)); have c1_2 := hHB.cell (p := ⟨w.heap.size + 1, 2, none⟩) (by first | omega | (simp <;> omega)); have f1_2 := hHB.frozen (p := ⟨w.heap.size + 1, 2, none⟩) (by first | omega | (simp <;> omega))
        clear HX HC
        have hz9 : w.heap.size + 1 < wr.heap.size := by omega
        have HOI := Lib.hid (Ints.own HO.out (by omega)).2
        obtain ⟨ad8, c8, hu8⟩ := HOI.out.shape
        subst hu8
        go_wp2
        refine bodyPost_ret (v := .tuple #[.agg #[.slice ad l.length c, .int .i64 p, .int .i64 0], .slice ad8 acc.length c8]) (by simp [results, Try.results109, go_sem, *]) rfl ((fun hk => ⟨_, ⟨rfl, ?_⟩, (Ints.own (own_keep HO.out hk) (by omega)).2, (Fresh.own (own_keep HO.out hk)).mono (by omega)⟩) ?_)
        · intro g h1 h2
          repeat (first | exact rfl | refine (Below.heap_setCell _ _ _ _ (by first | omega | (simp; omega))).trans ?_)
        · (repeat (first | with_reducible exact Below.refl _ _ | with_reducible refine Bs ?_ | with_reducible refine Ba ?_ | with_reducible refine Bd ?_ | with_reducible refine Bn ?_ | with_reducible refine Bt hHB ?_ | with_reducible refine Bt HB1.out ?_))
      · have hx : X = ([], a, e1) := by
          rcases HC.out with ⟨h1, _⟩ | ⟨_, h1⟩
          · exact absurd h1 he
          · exact h1
        subst hx
        have hne : (e1 != 0) = true := by simpa using he
        have heq : (e1 == 0) = false := by simpa using he
        have hHB := HBR.out
        have c0_0 := hHB.cell (p := ⟨w.heap.size, 0, none⟩) (by first | omega | (simp <;> omega)); have f0_0 := hHB.frozen (p := ⟨w.heap.size, 0, none⟩) (by first | omega | (simp <;> omega)); have c0_1 := hHB.cell (p := ⟨w.heap.size, 1, none⟩) (by first | omega | (simp <;> omega)); have f0_1 := hHB.frozen (p := ⟨w.heap.size, 1, none⟩) (by first | omega | (simp <;> omega)); have c0_2 := hHB.cell (p := ⟨w.heap.size, 2, none⟩) (by first | omega | (simp <;> omega)); have f0_2 := hHB.frozen (p := ⟨w.heap.size, 2, none⟩) (by first | omega | (simp <;> omega)); have c1_0 := hHB.cell (p := ⟨w.heap.size + 1, 0, none⟩) (by first | omega | (simp <;> omega)); have f1_0 := hHB.frozen (p := ⟨w.heap.size + 1, 0, none⟩) (by first | omega | (simp <;> omega)); have c1_1 := hHB.cell (p := ⟨w.heap.size + 1, 1, none⟩) (by first | omega | (simp <;> omega)); have f1_1 := hHB.frozen (p := ⟨w.heap.size + 1, 1, none⟩) (by first | omega | (simp <;> omega)); have c1_2 := hHB.cell (p := ⟨w.heap.size + 1, 2, none⟩) (by first | omega | (simp <;> omega)); have f1_2 := hHB.frozen (p := ⟨w.heap.size + 1, 2, none⟩) (by first | omega | (simp <;> omega))
        clear he HX HC
        have hz9 : w.heap.size + 1 < wr.heap.size := by omega
        go_wp2_with (go_at_call 159; refine (rfail_any _ ad l.length c rfl a e0 e1 _).mono ?_; rintro e w2 ⟨rfl, hbw2⟩; have c0_0 := hbw2.cell (p := ⟨w.heap.size, 0, none⟩) (by first | omega | (simp <;> omega)); have f0_0 := hbw2.frozen (p := ⟨w.heap.size, 0, none⟩) (by first | omega | (simp <;> omega)); have c0_1 := hbw2.cell (p := ⟨w.heap.size, 1, none⟩) (by first | omega | (simp <;> omega)); have f0_1 := hbw2.frozen (p := ⟨w.heap.size, 1, none⟩) (by first | omega | (simp <;> omega)); have c0_2 := hbw2.cell (p := ⟨w.heap.size, 2, none⟩) (by first | omega | (simp <;> omega)); have f0_2 := hbw2.frozen (p := ⟨w.heap.size, 2, none⟩) (by first | omega | (simp <;> omega)); have c1_0 := hbw2.cell (p := ⟨w.heap.size + 1, 0, none⟩) (by first | omega | (simp <;> omega)); have f1_0 := hbw2.frozen (p := ⟨w.heap.size + 1, 0, none⟩) (by first | omega | (simp <;> omega)); have c1_1 := hbw2.cell (p := ⟨w.heap.size + 1, 1, none⟩) (by first | omega | (simp <;> omega)); have f1_1 := hbw2.frozen (p := ⟨w.heap.size + 1, 1, none⟩) (by first | omega | (simp <;> omega)); have c1_2 := hbw2.cell (p := ⟨w.heap.size + 1, 2, none⟩) (by first | omega | (simp <;> omega)); have f1_2 := hbw2.frozen (p := ⟨w.heap.size + 1, 2, none⟩) (by first | omega | (simp <;> omega)))
        refine bodyPost_ret (v := .tuple #[.agg #[.slice ad l.length c, .int .i64 a, .int .i64 e1], .slice none 0 0]) (by simp [results, Try.results109, go_sem, *]) rfl ⟨_, ⟨rfl, ?_⟩, ints_nil _ _ _ _ (by omega), fresh_nil _ _ _⟩
        (repeat (first | with_reducible exact Below.refl _ _ | with_reducible refine Bs ?_ | with_reducible refine Ba ?_ | with_reducible refine Bd ?_ | with_reducible refine Bn ?_ | with_reducible refine Bt hbw2 ?_ | with_reducible refine Bt hHB ?_ | with_reducible refine Bt HB1.out ?_))
end Go.Proofs.Ytjmjnkilgoelbaa

namespace Go.Proofs.Ytjmjnkilgoelbaa
open Go.RowKit

set_option maxHeartbeats 400000 in
theorem same_any (va vb : Value) (la lb : List Int) (w : World) (ha : Ints .i64 w va la) (hb : Ints .i64 w vb lb) :
    Calls Try.prog 72 #[va, vb] w fun e w' => e = .returned (.bool (decide (la = lb))) ∧ ∃ n, w' = w.drewN n := by
  obtain ⟨a, c, rfl, _, _, h3, ha⟩ := ha
  obtain ⟨b, d, rfl, _, _, h3', hb⟩ := hb
  have HA := Lib.hid ha; clear ha
  have HB := Lib.hid hb; clear hb
  obtain ⟨m, hm⟩ : ∃ m, lb.length = m := ⟨_, rfl⟩
  rw [hm] at h3' ⊢
  have HM := Lib.hid hm; clear hm
  by_cases hl : la.length = m
  · obtain rfl := hl
    have hb : ((la.length : Int) != la.length) = false := by simp
    go_enter Try.func72, Try.ntmps72
    go_wp2
    go_loopw [5] (fun i wr => ∃ k : Nat, k ≤ la.length ∧ i = .int .i64 k ∧ (la.take k = lb.take k) ∧ ∃ n, wr = w.drewN n) (fun i _ => la.length - (intOf i).toNat)
    case atStart => exact ⟨0, Nat.zero_le _, rfl, rfl, 0, rfl⟩
    case round =>
      obtain ⟨k, hk, rfl, hpre, n, rfl⟩ := hrel
      have HP := Lib.hid hpre; clear hpre
      by_cases hlt : k < la.length
      · obtain ⟨x, hx⟩ := getElem?_ex hlt
        obtain ⟨y, hy⟩ := getElem?_ex (l := lb) (k := k) (by rw [HM.out]; exact hlt)
        obtain ⟨b1, o1, rfl, hb1, hc1⟩ := HA.out k x hx
        obtain ⟨b2, o2, rfl, hb2, hc2⟩ := HB.out k y hy
        have HX := Lib.hid hx; clear hx
        have HY := Lib.hid hy; clear hy
        go_wp2
        go_quiet (fail)
        go_wp2
        · go_ret
          have hne : (x != y) = true := by assumption
          refine ⟨ret_bool ?_, _, World.drewN_drewN _ _ _⟩
          symm; rw [decide_eq_false_iff_not]; rintro rfl
          have := HX.out.symm.trans HY.out
          simp_all
        · have hne : (x != y) = false := by assumption
          have : x = y := by simpa using hne
          subst this
          go_roundw
          case rel => exact ⟨k + 1, by omega, by go_num, take_step HX.out HY.out HP.out, _, rfl⟩
          case measure => simp [intOf] <;> omega
      · go_wp2
        go_ret
        refine ⟨ret_bool ?_, _, rfl⟩
        have hp := HP.out
        rw [List.take_of_length_le (by omega), List.take_of_length_le (by rw [HM.out]; omega)] at hp
        simp [hp]
  · have hb : ((la.length : Int) != m) = true := by simp; omega
    go_enter Try.func72, Try.ntmps72
    go_wp2
    go_ret
    refine ⟨ret_bool ?_, 0, rfl⟩
    symm; rw [decide_eq_false_iff_not]; rintro rfl
    exact hl HM.out
end Go.Proofs.Ytjmjnkilgoelbaa

namespace Go.Proofs.Ytjmjnkilgoelbaa
open Go.RowKit

theorem RdTo.refl {w : World} {R : Nat} {v : Value} {l : List Int} {a : Nat} {e : Int} (h : Rd w R v l a e) : RdTo w R v l w a e := ⟨h, only_refl _ _⟩

theorem readU_all {w : World} {R : Nat} {v : Value} {l : List Int} {a : Nat} {e0 : Int} (h : Rd w R v l a e0) (hb : AllB l) (ha : a ≤ l.length) (hl : l.length ≤ 100000) :
    Calls Try.prog 157 #[.pointer (some ⟨R, 0, none⟩)] w fun e w' => e = .returned (.int .u64 (rdU' l a e0).1) ∧ RdTo w R v l w' (rdU' l a e0).2.1 (rdU' l a e0).2.2 := by
  by_cases he : e0 = 0
  · subst he; rw [rdU', if_pos rfl]; exact readU_any h hb ha hl
  · rw [rdU', if_neg he]; exact (readU_dead h he).mono fun e w' ⟨h1, h2⟩ => ⟨h1, h2 ▸ RdTo.refl h⟩

theorem readN_all {w : World} {R : Nat} {v : Value} {l : List Int} {a : Nat} {e0 : Int} (h : Rd w R v l a e0) (hb : AllB l) (ha : a ≤ l.length) (hl : l.length ≤ 100000) (most : Int) (hm : Ok64 most) :
    Calls Try.prog 96 #[.pointer (some ⟨R, 0, none⟩), .int .i64 most] w fun e w' => e = .returned (.int .i64 (rdN' l a e0 most).1) ∧ RdTo w R v l w' (rdN' l a e0 most).2.1 (rdN' l a e0 most).2.2 := by
  by_cases he : e0 = 0
  · subst he; rw [rdN', if_pos rfl]; exact readN_any h hb ha hl most hm
  · rw [rdN', if_neg he]; exact (readN_dead h he most).mono fun e w' ⟨h1, h2⟩ => ⟨h1, h2 ▸ RdTo.refl h⟩

theorem readI_all {w : World} {R : Nat} {v : Value} {l : List Int} {a : Nat} {e0 : Int} (h : Rd w R v l a e0) (hb : AllB l) (ha : a ≤ l.length) (hl : l.length ≤ 100000) :
    Calls Try.prog 118 #[.pointer (some ⟨R, 0, none⟩)] w fun e w' => e = .returned (.int .i64 (rdI' l a e0).1) ∧ RdTo w R v l w' (rdI' l a e0).2.1 (rdI' l a e0).2.2 := by
  by_cases he : e0 = 0
  · subst he; rw [rdI', if_pos rfl]; exact readI_any h hb ha hl
  · rw [rdI', if_neg he]; exact (readI_dead h he).mono fun e w' ⟨h1, h2⟩ => ⟨h1, h2 ▸ RdTo.refl h⟩

theorem readInts_all {w : World} {R : Nat} {v : Value} {l : List Int} {a : Nat} {e0 : Int} (h : Rd w R v l a e0) (hb : AllB l) (ha : a ≤ l.length) (hl : l.length ≤ 100000) (most : Int) (hm : Ok64 most) :
    Calls Try.prog 107 #[.pointer (some ⟨R, 0, none⟩), .int .i64 most] w fun e w' => RdT .i64 w R v l (rdInts' l a e0 most) e w' := by
  by_cases he : e0 = 0
  · subst he; rw [rdInts', if_pos rfl]; exact readInts_any h hb ha hl most hm
  · rw [rdInts', if_neg he]; exact (readInts_dead h he most).mono fun e w' ⟨h1, h2⟩ => ⟨_, h1, ints_nil _ _ _ _ (by omega), h2 ▸ RdTo.refl h⟩

theorem Ints.only_fresh {k : IntKind} {w w' : World} {R B : Nat} {v : Value} {l : List Int} (h : Ints k w v l) (hf : Fresh B v) (hR : R < B) (hg : w.grownBy w' (some R)) : Ints k w' v l := by
  obtain ⟨ad, c, rfl, h1, h2, h3, h4⟩ := h
  refine ⟨ad, c, rfl, h1, h2, h3, fun i x hx => ?_⟩
  obtain ⟨b, o, rfl, hlt, hc⟩ := h4 i x hx
  have hB : B ≤ b := hf ⟨b, o, none⟩ _ _ rfl (by have := (List.getElem?_eq_some_iff.1 hx).1; omega)
  refine ⟨b, o, rfl, Nat.lt_of_lt_of_le hlt hg.size, ?_⟩
  exact (World.cell?_of_block (w := w) (a := ⟨b, o + i, none⟩) (hg.block b hlt (by simp; omega))).trans hc

theorem only_cell {w w' : World} {R : Nat} (hg : w.grownBy w' (some R)) (b o : Nat) (hb : b < w.heap.size) (hne : R ≠ b) : w'.cell? ⟨b, o, none⟩ = w.cell? ⟨b, o, none⟩ :=
  World.cell?_of_block (w := w) (a := ⟨b, o, none⟩) (hg.block b hb (by simp; omega))

theorem only_frozen {w w' : World} {R : Nat} (hg : w.grownBy w' (some R)) (b o : Nat) (hb : b < w.heap.size) (hne : R ≠ b) : w'.frozen? ⟨b, o, none⟩ = w.frozen? ⟨b, o, none⟩ := by
  have := hg.block b hb (by simp; omega)
  simp only [World.frozen?, this]

/-- Where a reader stands and how it failed, when it was asked. -/
def askR (l : List Int) (a : Nat) (e : Int) (d most : Int) : Nat × Int :=
  if d = 0 then (rdU' l a e).2 else if d = 1 then (rdN' l a e most).2 else if d = 2 then (rdI' l a e).2 else if d = 3 then (rdText' l a e most).2 else if d = 4 then (rdInts' l a e most).2
  else if d = 5 then (a, failE e most) else (a, endE l a e)

/-- What a question leaves. -/
def AskR (w : World) (R : Nat) (v v0 : Value) (l : List Int) (r : Nat × Int) (e : Ending) (w' : World) : Prop := e = .returned (.tuple #[.agg #[v0, .int .i64 r.1, .int .i64 r.2], .bool true]) ∧ RdTo w R v l w' r.1 r.2

theorem RdTo.from {w w1 w2 : World} {R : Nat} {v : Value} {l : List Int} {a : Nat} {e : Int} (hb : Below w.heap.size w w1) (h : RdTo w1 R v l w2 a e) : RdTo w R v l w2 a e :=
  ⟨h.1, only_trans (only_below hb) h.2⟩

end Go.Proofs.Ytjmjnkilgoelbaa

namespace Go.Proofs.Ytjmjnkilgoelbaa
open Go.RowKit

/-- The bytes of l from a up to a' are b. -/
def Got (l : List Int) (a a' : Nat) (b : List Int) : Prop := a ≤ a' ∧ a' ≤ l.length ∧ b = (l.drop a).take (a' - a)

theorem Got.refl {l : List Int} {a : Nat} (h : a ≤ l.length) : Got l a a [] := ⟨Nat.le_refl _, h, by simp⟩

theorem Got.trans {l : List Int} {a b c : Nat} {x y : List Int} (h : Got l a b x) (k : Got l b c y) : Got l a c (x ++ y) := by
  obtain ⟨h1, h2, rfl⟩ := h
  obtain ⟨k1, k2, rfl⟩ := k
  refine ⟨by omega, k2, ?_⟩
  have : l.drop b = (l.drop a).drop (b - a) := by rw [List.drop_drop]; congr 1; omega
  rw [this, ← List.take_add]
  congr 1
  omega

theorem Got.start {l : List Int} {a : Nat} {b : List Int} (h : Got l 0 a b) : b = l.take a := by
  obtain ⟨_, _, h⟩ := h
  simpa using h

theorem rdN'_le {l : List Int} (hb : AllB l) {a : Nat} (ha : a ≤ l.length) (e most : Int) : (rdN' l a e most).2.1 ≤ l.length := by
  have hf := rdN'_facts l hb a e most
  by_cases h2 : (rdN' l a e most).2.2 = 0
  · exact (hf.2 h2).2.1
  · rw [(hf.1 h2).2]; exact ha

theorem gotN {l : List Int} (hb : AllB l) {a : Nat} {e most : Int} (h : (rdN' l a e most).2.2 = 0) : e = 0 ∧ Got l a (rdN' l a e most).2.1 (putsU (rdN' l a e most).1) ∧ ((rdN' l a e most).1 : Int) ≤ most := by
  by_cases he : e = 0
  · subst he
    refine ⟨rfl, ?_⟩
    rw [rdN', if_pos rfl] at h ⊢
    unfold rdN at h ⊢
    by_cases h1 : (rdU l a).2.2 = 0
    · rw [if_neg (by omega)] at h ⊢
      by_cases hm : most < 0 ∨ most < ((rdU l a).1 : Int)
      · rw [if_pos hm] at h; simp at h
      · rw [if_neg hm]
        obtain ⟨g1, g2, g3, g4⟩ := rdU_ok l hb a h1
        exact ⟨⟨by omega, g2, g4⟩, by omega⟩
    · rw [if_pos h1] at h; exact absurd h h1
  · rw [rdN', if_neg he] at h
    exact absurd h he

theorem rdN'_dead {l : List Int} {a : Nat} {e most : Int} (he : e ≠ 0) : rdN' l a e most = (0, a, e) := by rw [rdN', if_neg he]

/-- How a reader ends, if what it read must be right. -/
def finE (e : Int) (right : Bool) : Int := if e = 0 then (if right then 0 else 211) else e

theorem finE_zero {e : Int} {right : Bool} (h : finE e right = 0) : e = 0 ∧ right = true := by
  unfold finE at h
  split at h
  · split at h
    · exact ⟨by assumption, by assumption⟩
    · omega
  · exact absurd h (by assumption)

theorem finE_fail (e : Int) : failE e 211 = if e = 0 then 211 else e := by
  unfold failE
  split <;> rfl

/-! ### scores -/
def scoreBytes (s : Int × Int) : List Int := if scoreB s = true then putsU s.1.toNat ++ putsU s.2.toNat else []

def gS (l : List Int) (a : Nat) (e : Int) : (Int × Int) × Nat × Int := ((((rdN' l a e 274877906944).1 : Int), ((rdN' l (rdN' l a e 274877906944).2.1 (rdN' l a e 274877906944).2.2 1099511627776).1 : Int)), (rdN' l (rdN' l a e 274877906944).2.1 (rdN' l a e 274877906944).2.2 1099511627776).2)

def getSE (l : List Int) (a : Nat) (e : Int) : Int := finE (gS l a e).2.2 (scoreB (gS l a e).1)
def getSV (l : List Int) (a : Nat) (e : Int) : Int × Int := if getSE l a e = 0 then (gS l a e).1 else (0, 0)

theorem gS_le {l : List Int} (hb : AllB l) {a : Nat} (ha : a ≤ l.length) (e : Int) : (gS l a e).2.1 ≤ l.length := rdN'_le hb (rdN'_le hb ha _ _) _ _

theorem getS_got {l : List Int} (hb : AllB l) {a : Nat} {e : Int} (h : getSE l a e = 0) : e = 0 ∧ Got l a (gS l a e).2.1 (scoreBytes (getSV l a e)) ∧ scoreB (getSV l a e) = true := by
  have h0 := h
  obtain ⟨h1, h2⟩ := finE_zero h
  obtain ⟨e1, g1, _⟩ := gotN hb (show (rdN' l (rdN' l a e 274877906944).2.1 (rdN' l a e 274877906944).2.2 1099511627776).2.2 = 0 from h1)
  obtain ⟨e2, g2, _⟩ := gotN hb e1
  unfold getSV
  rw [if_pos h0]
  refine ⟨e2, ?_, h2⟩
  unfold scoreBytes
  rw [if_pos h2]
  exact g2.trans g1
end Go.Proofs.Ytjmjnkilgoelbaa

namespace Go.Proofs.Ytjmjnkilgoelbaa
open Go.RowKit

/-- v is a slice of pairs of integers. -/
def PairsR (w : World) (v : Value) (l : List (Int × Int)) : Prop :=
  ∃ a c, v = .slice a l.length c ∧ l.length ≤ c ∧ c ≤ 9223372036854775807 ∧ l.length ≤ 140737488351232 ∧ ∀ (i : Nat) (p : Int × Int), l[i]? = some p →
    ∃ b o, a = some ⟨b, o, none⟩ ∧ b < w.heap.size ∧ w.cell? ⟨b, o + i * 2, none⟩ = some (.int .i64 p.1) ∧ w.cell? ⟨b, o + i * 2 + 1, none⟩ = some (.int .i64 p.2)

theorem PairsR.shape {w : World} {v : Value} {l : List (Int × Int)} (h : PairsR w v l) : ∃ a c, v = .slice a l.length c := by
  obtain ⟨a, c, e, _⟩ := h
  exact ⟨a, c, e⟩

theorem PairsR.below {w w' : World} {v : Value} {l : List (Int × Int)} (h : PairsR w v l) (B : Below w.heap.size w w') : PairsR w' v l := by
  obtain ⟨a, c, e, h1, h2, h3, h⟩ := h
  refine ⟨a, c, e, h1, h2, h3, fun i p hi => ?_⟩
  obtain ⟨b, o, e, hb, c0, c1⟩ := h i p hi
  exact ⟨b, o, e, Nat.lt_of_lt_of_le hb B.size, (B.cell (p := ⟨b, _, none⟩) hb).trans c0, (B.cell (p := ⟨b, _, none⟩) hb).trans c1⟩

theorem PairsR.drewN {w : World} {v : Value} {l : List (Int × Int)} (h : PairsR w v l) (n : Nat) : PairsR (w.drewN n) v l := h.below (below_drewN (Below.refl _ _) n)

theorem pairs_nil (w : World) (a : Option Addr) (c : Nat) (hc : c ≤ 9223372036854775807) : PairsR w (.slice a 0 c) [] :=
  ⟨a, c, rfl, Nat.zero_le _, hc, by simp, fun i p hi => by simp at hi⟩

theorem PairsR.at {w : World} {b o n c : Nat} {l : List (Int × Int)} (h : PairsR w (.slice (some ⟨b, o, none⟩) n c) l) {i : Nat} {p : Int × Int} (hi : l[i]? = some p) :
    b < w.heap.size ∧ w.cell? ⟨b, o + i * 2, none⟩ = some (.int .i64 p.1) ∧ w.cell? ⟨b, o + i * 2 + 1, none⟩ = some (.int .i64 p.2) := by
  obtain ⟨a, c', e, _, _, _, g⟩ := h
  injection e with e1 e2 e3
  subst e1
  obtain ⟨b', o', e, hb, c0, c1⟩ := g i p hi
  injection e with e
  injection e with e1 e2
  subst e1 e2
  exact ⟨hb, c0, c1⟩

/-- A slice that holds something has an address. -/
theorem PairsR.addr {w : World} {a : Option Addr} {n c : Nat} {l : List (Int × Int)} (h : PairsR w (.slice a n c) l) (hl : 0 < l.length) : ∃ b o, a = some ⟨b, o, none⟩ := by
  obtain ⟨p, hp⟩ := getElem?_ex hl
  obtain ⟨_, _, e, _, _, _, g⟩ := h
  injection e with e1 e2 e3
  subst e1
  obtain ⟨b, o, e, _⟩ := g 0 p hp
  exact ⟨b, o, e⟩

/-- A part of a slice of pairs. -/
theorem PairsR.cutAt {w : World} {b o n c : Nat} {l : List (Int × Int)} (h : PairsR w (.slice (some ⟨b, o, none⟩) n c) l) {i m : Nat} (hi : i + m ≤ l.length) {o' : Nat} (ho : o' = o + i * 2) (c' : Nat) (hc : m ≤ c') (hc2 : c' ≤ 9223372036854775807) :
    PairsR w (.slice (some ⟨b, o', none⟩) m c') ((l.drop i).take m) := by
  subst ho
  have hl : ((l.drop i).take m).length = m := by rw [List.length_take, List.length_drop]; omega
  have h3 : l.length ≤ 140737488351232 := by obtain ⟨_, _, _, _, _, h3, _⟩ := h; exact h3
  refine ⟨_, c', by rw [hl], by omega, hc2, by omega, fun j p hj => ?_⟩
  have hjm : j < m := by rw [← hl]; exact (List.getElem?_eq_some_iff.1 hj).1
  rw [List.getElem?_take, if_pos hjm, List.getElem?_drop] at hj
  obtain ⟨g1, g2, g3⟩ := h.at hj
  rw [show (i + j) * 2 = i * 2 + j * 2 by omega, ← Nat.add_assoc] at g2 g3
  exact ⟨b, o + i * 2, rfl, g1, g2, g3⟩

def pairF (p : Int × Int) : List Value := [.int .i64 p.1, .int .i64 p.2]

theorem pairF_at : ∀ (ps : List (Int × Int)) (i : Nat) (p : Int × Int), ps[i]? = some p → (ps.flatMap pairF)[i * 2]? = some (.int .i64 p.1) ∧ (ps.flatMap pairF)[i * 2 + 1]? = some (.int .i64 p.2)
  | [], i, p, h => by simp at h
  | q :: ps, 0, p, h => by
    obtain rfl : q = p := by simpa using h
    exact ⟨rfl, rfl⟩
  | q :: ps, i + 1, p, h => by
    have := pairF_at ps i p (by simpa using h)
    rw [List.flatMap_cons]
    have e1 : (i + 1) * 2 = i * 2 + 1 + 1 := by omega
    rw [e1]
    exact this

theorem pairF_len (ps : List (Int × Int)) : (ps.flatMap pairF).length = ps.length * 2 := by
  induction ps with
  | nil => rfl
  | cons p ps ih => rw [List.flatMap_cons, List.length_append, ih, List.length_cons]; simp [pairF]; omega

theorem pairF_one {ps : List (Int × Int)} {u : Value} (h : u ∈ ps.flatMap pairF) : ∃ z : Int, u = .int .i64 z := by
  obtain ⟨p, _, hp⟩ := List.mem_flatMap.1 h
  simp only [pairF, List.mem_cons, List.not_mem_nil, or_false] at hp
  rcases hp with rfl | rfl
  · exact ⟨_, rfl⟩
  · exact ⟨_, rfl⟩

theorem own_pairs {w : World} {base e n : Nat} {v : Value} {ps : List (Int × Int)} (h : w.ownsRow base e 2 v n (ps.flatMap pairF)) (hn : n = ps.length) (hb : ps.length ≤ 140737488351232) : PairsR w v ps := by
  subst hn
  rcases h.2 with ⟨rfl, h0⟩ | ⟨g, cap, cur, rfl, _, hg, h1, h2, h3, h4⟩
  · have : ps = [] := List.eq_nil_of_length_eq_zero h0
    subst this
    exact pairs_nil _ _ _ (by omega)
  · refine ⟨some ⟨g, 0, none⟩, cap, rfl, h1, by simpa [maxLen] using h2, hb, fun i p hi => ?_⟩
    have hlt : i < ps.length := (List.getElem?_eq_some_iff.1 hi).1
    obtain ⟨r0, r1⟩ := pairF_at ps i p hi
    have c0 := (h.cellAt (i * 2) (by omega)).trans r0
    have c1 := (h.cellAt (i * 2 + 1) (by omega)).trans r1
    exact ⟨g, 0, rfl, (Array.getElem?_eq_some_iff.1 hg).1, by rw [Nat.zero_add]; exact c0, by rw [Nat.zero_add]; exact c1⟩

/-- Append of a whole slice of pairs onto a row of the call's own. -/
theorem appPairs {P : Program} {ops : Array Oper} {rest : List Oper} {o : Oper} {a : Act} {Q : Exit → Act → World → Prop} (hgd : o.guard = none) (s x : Operand) (t : TypeId)
    (ho : o.op = .call { callee := .builtin .append, args := #[s, x], argTypes := #[t, t] })
    {e : TypeId} {z : Value} {bytes : Nat} (ht : P.underlying t = some (.slice e)) (hE : EI P e z 2 bytes)
    (base : Nat) {v : Value} {n : Nat} {xs : List Value} {W : World} {vx : Value} {l : List (Int × Int)} (hs : a.eval s = v) (hown : W.ownsRow base e 2 v n xs)
    (hx : a.eval x = vx) (hl : PairsR W vx l) (hbytes : (n + l.length) * bytes ≤ 140737488355328) (hbase : base ≤ W.heap.size)
    (h : ∀ v' w', w'.ownsRow base e 2 v' (n + l.length) (xs ++ l.flatMap pairF) → Below base W w' → W.grownBy w' v.ownBlock → wpList P ops Q rest (a.put o.dst v') w') :
    wpList P ops Q (o :: rest) a W := by
  obtain ⟨i, hi, hz, hsize, hby, hzs, hsz, hbp⟩ := hE
  have h63 : n + l.length ≤ 140737488355328 := Nat.le_trans (Nat.le_mul_of_pos_right _ hbp) hbytes
  obtain ⟨ad, c, rfl, g1, g2, g3, h4⟩ := hl
  rcases ad with _ | ad
  · have hl0 : l = [] := by
      cases l with
      | nil => rfl
      | cons x l => obtain ⟨b, o, e, _⟩ := h4 0 x rfl; cases e
    subst hl0
    have hrun : (Builtin.append_ #[t, t] o.type #[v, .slice none 0 c]).run P W = .ok v W := by
      rcases hown.2 with ⟨rfl, rfl⟩ | ⟨g, cap, cur, rfl, _, _, hnc, _⟩
      · simp [Builtin.append_, run_underlying ht, sizeOf, typeInfo, hi, Builtin.lenOf, Builtin.firstCells]
      · simp [Builtin.append_, run_underlying ht, sizeOf, typeInfo, hi, Builtin.lenOf, Builtin.firstCells, hnc, storeCells]
    refine wpList_plain hgd fun K hK => ?_
    unfold Oper.wp execOp
    simp only [ho, resolve, invoke, builtin, Sem.run_bind, Sem.run_pure, Result.andThen_ok, List.map_toArray, List.map_cons, List.map_nil, hs, hx, List.length_nil, hrun]
    exact hK _ _ (h v W (by simpa using hown) (Below.refl _ _) ⟨rfl, rfl, rfl, Nat.le_refl _, fun _ _ _ => rfl⟩)
  · refine wpList_append_own _ hgd s x t ho base e i z 2 bytes ht hi hz hsize hby hzs hsz v n xs hs hown ad l.length c (l.flatMap pairF) hx (pairF_len l) ?_ (by intro u hu; obtain ⟨y, rfl⟩ := pairF_one hu; rfl) (by unfold maxLen; omega) hbytes hbase ?_
    · intro j u hu
      have hjl : j < l.length * 2 := by rw [← pairF_len]; exact (List.getElem?_eq_some_iff.1 hu).1
      obtain ⟨p, hp⟩ := getElem?_ex (l := l) (k := j / 2) (by omega)
      obtain ⟨r0, r1⟩ := pairF_at l (j / 2) p hp
      obtain ⟨b, o, e, _, c0, c1⟩ := h4 (j / 2) p hp
      injection e with e
      subst e
      have hadd : (⟨b, o, none⟩ : Addr).add j = ⟨b, o + j, none⟩ := by unfold Addr.add; split <;> simp_all
      rw [hadd]
      rcases Nat.mod_two_eq_zero_or_one j with hm | hm
      · have ej : j / 2 * 2 = j := by omega
        rw [ej] at r0 c0
        rw [c0, ← hu, r0]
      · have ej : j / 2 * 2 + 1 = j := by omega
        rw [ej] at r1
        rw [Nat.add_assoc, ej] at c1
        rw [c1, ← hu, r1]
    · intro v' w' hown' hg _
      exact h v' w' hown' ((Below.refl _ _).grown hg hbase fun k hk => (hown.lt k hk).1) hg
end Go.Proofs.Ytjmjnkilgoelbaa

namespace Go.Proofs.Ytjmjnkilgoelbaa
open Go.RowKit

def digsF : Nat → Nat → List Int
  | 0, _ => []
  | f + 1, n => if n = 0 then [] else ((n % 65536 : Nat) : Int) :: digsF f (n / 65536)
def digs (n : Nat) : List Int := digsF n n

theorem digsF_eq : ∀ (f g n : Nat), n ≤ f → n ≤ g → digsF f n = digsF g n := by
  intro f
  induction f with
  | zero => intro g n h _; have : n = 0 := by omega
            subst this; cases g <;> simp [digsF]
  | succ f ih =>
    intro g n h h'
    cases g with
    | zero => have : n = 0 := by omega
              subst this; simp [digsF]
    | succ g =>
      simp only [digsF]
      split
      · rfl
      · rw [ih g (n / 65536) (by omega) (by omega)]

theorem digs_zero : digs 0 = [] := rfl
theorem digs_pos {n : Nat} (h : 0 < n) : digs n = ((n % 65536 : Nat) : Int) :: digs (n / 65536) := by
  obtain ⟨f, rfl⟩ : ∃ f, n = f + 1 := ⟨n - 1, by omega⟩
  show digsF (f + 1) (f + 1) = _
  simp only [digsF]
  rw [if_neg (by omega)]
  unfold digs
  rw [digsF_eq f ((f + 1) / 65536) _ (by omega) (Nat.le_refl _)]

/-- The number of some digits. -/
def bv : List Int → Nat
  | [] => 0
  | d :: l => d.toNat + 65536 * bv l

def Dig (l : List Int) : Prop := ∀ d ∈ l, 0 ≤ d ∧ d ≤ 65535

theorem digs_dig (n : Nat) : Dig (digs n) := by
  induction n using Nat.strongRecOn with
  | _ n ih =>
    rcases Nat.eq_zero_or_pos n with h | h
    · subst h; intro d hd; simp [digs_zero] at hd
    · rw [digs_pos h]
      intro d hd
      rcases List.mem_cons.1 hd with h1 | h1
      · subst h1; omega
      · exact ih _ (by omega) d h1

theorem bv_digs (n : Nat) : bv (digs n) = n := by
  induction n using Nat.strongRecOn with
  | _ n ih =>
    rcases Nat.eq_zero_or_pos n with h | h
    · subst h; rfl
    · rw [digs_pos h]
      simp only [bv, ih (n / 65536) (by omega)]
      omega

/-- Digits with nothing at the top. -/
def Canon : List Int → Prop
  | [] => True
  | [d] => 0 < d
  | _ :: l => Canon l

theorem canon_cons {d : Int} {l : List Int} (h : l ≠ []) (hc : Canon l) : Canon (d :: l) := by
  cases l with
  | nil => exact absurd rfl h
  | cons e l => exact hc

theorem canon_digs (n : Nat) : Canon (digs n) := by
  induction n using Nat.strongRecOn with
  | _ n ih =>
    rcases Nat.eq_zero_or_pos n with h | h
    · subst h; trivial
    · rw [digs_pos h]
      rcases Nat.eq_zero_or_pos (n / 65536) with h1 | h1
      · rw [h1, digs_zero]; show 0 < _; omega
      · exact canon_cons (by rw [digs_pos h1]; simp) (ih _ (by omega))

theorem canon_pos {l : List Int} (h : Canon l) (hd : Dig l) (hne : l ≠ []) : 0 < bv l := by
  induction l with
  | nil => exact absurd rfl hne
  | cons d l ih =>
    have hd0 := hd d (by simp)
    cases l with
    | nil => simp only [bv]; have : 0 < d := h; omega
    | cons e l =>
      have := ih h (fun x hx => hd x (by simp [hx])) (by simp)
      simp only [bv] at this ⊢; omega

theorem digs_of_canon {l : List Int} (h : Canon l) (hd : Dig l) : l = digs (bv l) := by
  induction l with
  | nil => rfl
  | cons d l ih =>
    have hd0 := hd d (by simp)
    have hdl : Dig l := fun x hx => hd x (by simp [hx])
    have hp := canon_pos h hd (by simp)
    have hcl : Canon l := by cases l with
      | nil => trivial
      | cons e l => exact h
    rw [digs_pos hp]
    simp only [bv]
    have e1 : (d.toNat + 65536 * bv l) % 65536 = d.toNat := by omega
    have e2 : (d.toNat + 65536 * bv l) / 65536 = bv l := by omega
    rw [e1, e2, ← ih hcl hdl]
    congr 1
    omega

def trimL (l : List Int) : List Int := (l.reverse.dropWhile (· == 0)).reverse

theorem trimL_snoc_zero (l : List Int) : trimL (l ++ [0]) = trimL l := by simp [trimL]
theorem trimL_snoc_pos (l : List Int) {d : Int} (h : d ≠ 0) : trimL (l ++ [d]) = l ++ [d] := by simp [trimL, h]

theorem bv_append (l m : List Int) : bv (l ++ m) = bv l + 65536 ^ l.length * bv m := by
  induction l with
  | nil => simp [bv]
  | cons d l ih => simp only [List.cons_append, bv, ih, List.length_cons, Nat.pow_succ]; rw [Nat.mul_add, ← Nat.mul_assoc, Nat.mul_comm 65536 (65536 ^ l.length), Nat.add_assoc]

theorem snoc_cases (l : List Int) : l = [] ∨ ∃ m d, l = m ++ [d] := by
  rcases List.eq_nil_or_concat l with h | ⟨m, d, h⟩
  · exact .inl h
  · exact .inr ⟨m, d, by simpa using h⟩

theorem canon_snoc (l : List Int) {d : Int} (h : 0 < d) : Canon (l ++ [d]) := by
  induction l with
  | nil => exact h
  | cons e l ih => exact canon_cons (by simp) ih

theorem trimL_spec : ∀ (n : Nat) (l : List Int), l.length = n → Dig l → Canon (trimL l) ∧ Dig (trimL l) ∧ bv (trimL l) = bv l := by
  intro n
  induction n with
  | zero => intro l h _; have : l = [] := List.eq_nil_of_length_eq_zero h
            subst this; exact ⟨trivial, fun d hd => by simp [trimL] at hd, rfl⟩
  | succ n ih =>
    intro l h hd
    rcases snoc_cases l with rfl | ⟨m, d, rfl⟩
    · simp at h
    · by_cases h0 : d = 0
      · subst h0
        rw [trimL_snoc_zero]
        obtain ⟨h1, h2, h3⟩ := ih m (by simpa using h) (fun x hx => hd x (by simp [hx]))
        exact ⟨h1, h2, by rw [h3, bv_append]; simp [bv]⟩
      · rw [trimL_snoc_pos m h0]
        have := hd d (by simp)
        exact ⟨canon_snoc m (by omega), hd, rfl⟩

theorem trimL_digs {l : List Int} (hd : Dig l) : trimL l = digs (bv l) := by
  obtain ⟨h1, h2, h3⟩ := trimL_spec l.length l rfl hd
  rw [digs_of_canon h1 h2, h3]

/-- Two rows of digits together, with what is carried. -/
def addL : List Int → List Int → Int → List Int
  | [], [], c => if 0 < c then [c % 65536] else []
  | a :: xs, [], c => (a + c) % 65536 :: addL xs [] ((a + c) / 65536)
  | [], b :: ys, c => (b + c) % 65536 :: addL [] ys ((b + c) / 65536)
  | a :: xs, b :: ys, c => (a + b + c) % 65536 :: addL xs ys ((a + b + c) / 65536)

theorem addL_dig (xs ys : List Int) (c : Int) (ha : Dig xs) (hb : Dig ys) (hc : 0 ≤ c ∧ c ≤ 1) : Dig (addL xs ys c) ∧ bv (addL xs ys c) = bv xs + bv ys + c.toNat := by
  fun_induction addL xs ys c with
  | case1 c h => exact ⟨fun d hd => by simp at hd; subst hd; omega, by simp [bv]; omega⟩
  | case2 c h => exact ⟨fun d hd => by simp at hd, by simp [bv]; omega⟩
  | case3 a xs c ih =>
    have h0 := ha a (by simp)
    obtain ⟨h1, h2⟩ := ih (fun d hd => ha d (by simp [hd])) hb ⟨by omega, by omega⟩
    refine ⟨fun d hd => ?_, by simp only [bv, h2]; omega⟩
    rcases List.mem_cons.1 hd with h | h
    · subst h; omega
    · exact h1 d h
  | case4 b ys c ih =>
    have h0 := hb b (by simp)
    obtain ⟨h1, h2⟩ := ih ha (fun d hd => hb d (by simp [hd])) ⟨by omega, by omega⟩
    refine ⟨fun d hd => ?_, by simp only [bv, h2]; omega⟩
    rcases List.mem_cons.1 hd with h | h
    · subst h; omega
    · exact h1 d h
  | case5 a xs b ys c ih =>
    have h0 := ha a (by simp)
    have h0' := hb b (by simp)
    obtain ⟨h1, h2⟩ := ih (fun d hd => ha d (by simp [hd])) (fun d hd => hb d (by simp [hd])) ⟨by omega, by omega⟩
    refine ⟨fun d hd => ?_, by simp only [bv, h2]; omega⟩
    rcases List.mem_cons.1 hd with h | h
    · subst h; omega
    · exact h1 d h

theorem addL_digs (m n : Nat) : trimL (addL (digs m) (digs n) 0) = digs (m + n) := by
  obtain ⟨h1, h2⟩ := addL_dig (digs m) (digs n) 0 (digs_dig m) (digs_dig n) (by omega)
  rw [trimL_digs h1, h2, bv_digs, bv_digs]; rfl
end Go.Proofs.Ytjmjnkilgoelbaa

namespace Go.Proofs.Ytjmjnkilgoelbaa
open Go.RowKit
def BigR (w : World) (e : Ending) (w' : World) (n : Nat) : Prop := ∃ v, e = .returned v ∧ Ints .i64 w' v (digs n) ∧ Fresh w.heap.size v ∧ Below w.heap.size w w'

theorem digs_len (n : Nat) : ∀ k, n < 65536 ^ k → (digs n).length ≤ k := by
  induction n using Nat.strongRecOn with
  | _ n ih =>
    intro k hk
    rcases Nat.eq_zero_or_pos n with h | h
    · subst h; simp [digs_zero]
    · rw [digs_pos h]
      cases k with
      | zero => simp at hk; omega
      | succ k =>
        have := ih (n / 65536) (by omega) k (by rw [Nat.pow_succ] at hk; omega)
        simp; omega

set_option maxRecDepth 100000 in
set_option maxHeartbeats 400000 in
theorem of_any (n : Nat) (w : World) (hn : n < 18446744073709551616) :
    Calls Try.prog 206 #[.int .u64 n] w fun e w' => BigR w e w' n := by
  have HN := Lib.hid hn; clear hn
  go_enter Try.func206, Try.ntmps206
  go_wp2
  go_loopw [0, 3] (fun m v wr => ∃ (k : Nat) (l : List Int), m = .int .u64 k ∧ k ≤ n ∧ wr.ownsRow w.heap.size 3 1 v l.length (l.map (.int .i64)) ∧ digs n = l ++ digs k ∧ Below w.heap.size w wr) (fun m _ _ => (intOf m).toNat)
  case atStart => exact ⟨n, [], rfl, Nat.le_refl _, World.ownsRow_nil _ _ _ _, rfl, Below.refl _ _⟩
  case round =>
    obtain ⟨k, l, rfl, hk, hown, hl, hb⟩ := hrel
    have HL := Lib.hid hl; clear hl
    have hlen : l.length ≤ 4 := by
      have := digs_len n 4 (by simpa using HN.out)
      rw [HL.out, List.length_append] at this; omega
    have hk64 : k < 18446744073709551616 := Nat.lt_of_le_of_lt hk HN.out
    by_cases h0 : 0 < k
    · go_wp2_with (at_builtin; go_must (refine app1 rfl _ _ 237 rfl Try.underlying237 eiInt w.heap.size (by rfl) hown (by rfl) rfl (by simp [Value.oneCell']) (by omega) hb.size ?_))
      intro v' w' hown' hb' _
      go_wp2
      go_roundw
      case rel => 
        refine ⟨k / 65536, l ++ [((k % 65536 : Nat) : Int)], by go_num, by omega, ?_, ?_, hb.trans hb'⟩
        · simpa using hown'
        · rw [HL.out, digs_pos h0]; simp
      case measure => simp [intOf] <;> omega
    · go_wp2
      go_ret
      obtain rfl : k = 0 := by omega
      obtain ⟨h1, h2⟩ := Ints.own hown (by omega)
      exact ⟨_, rfl, by rw [HL.out, digs_zero, List.append_nil]; exact h2, Fresh.own hown, hb⟩

set_option maxHeartbeats 400000 in
theorem digit_any (v : Value) (l : List Int) (i : Nat) (w : World) (h : Ints .i64 w v l) :
    Calls Try.prog 219 #[v, .int .i64 i] w fun e w' => e = .returned (.int .i64 (l.getD i 0)) ∧ w = w' := by
  obtain ⟨a, c, rfl, _, _, h3, h⟩ := h
  have H := Lib.hid h; clear h
  by_cases hi : i < l.length
  · obtain ⟨x, hx⟩ := getElem?_ex hi
    obtain ⟨b1, o1, rfl, hb1, hc1⟩ := H.out i x hx
    have HX := Lib.hid hx; clear hx
    go_enter Try.func219, Try.ntmps219
    go_wp2
    go_ret
    refine ⟨ret_int ?_, rfl⟩
    simp [HX.out]
  · have : l.length ≤ i := by omega
    go_enter Try.func219, Try.ntmps219
    go_wp2
    go_ret
    refine ⟨ret_int ?_, rfl⟩
    simp [List.getElem?_eq_none this]

set_option maxHeartbeats 400000 in
theorem trim_any (v : Value) (l : List Int) (w : World) (h : Ints .i64 w v l) :
    Calls Try.prog 220 #[v] w fun e w' => ∃ v', e = .returned v' ∧ Ints .i64 w v' (trimL l) ∧ (∀ B, Fresh B v → Fresh B v') ∧ w = w' := by
  obtain ⟨a, c, rfl, h1, h2, h3, h⟩ := h
  have H := Lib.hid h; clear h
  go_enter Try.func220, Try.ntmps220
  go_wp2
  go_loop [3] (fun i => ∃ k : Nat, k ≤ l.length ∧ i = .int .i64 k ∧ trimL l = trimL (l.take k)) (fun i => (intOf i).toNat)
  case atStart => exact ⟨l.length, Nat.le_refl _, rfl, by simp⟩
  case round =>
    obtain ⟨k, hk, rfl, ht⟩ := hrel
    have HT := Lib.hid ht; clear ht
    by_cases h0 : 0 < k
    · obtain ⟨j, hj⟩ : ∃ j, k = j + 1 := ⟨k - 1, by omega⟩
      subst hj
      have hjl : j < l.length := by omega
      obtain ⟨x, hx⟩ := getElem?_ex hjl
      obtain ⟨b1, o1, rfl, hb1, hc1⟩ := H.out j x hx
      have HX := Lib.hid hx; clear hx
      have e1 : ((j + 1 : Nat) : Int) - 1 = j := by omega
      have E1 := Lib.hid e1; clear e1
      by_cases hx0 : x = 0
      · have hxb : (x == 0) = true := by simp [hx0]
        have HX0 := Lib.hid hx0; clear hx0
        go_wp2
        go_round
        case rel => exact ⟨j, by omega, rfl, by rw [HT.out, take_snoc' HX.out, HX0.out, trimL_snoc_zero]⟩
        case measure => simp [intOf] <;> omega
      · have hxb : (x == 0) = false := by simp [hx0]
        go_wp2
        go_ret
        refine ⟨_, rfl, ?_, fun B hB => hB.cut (by omega), rfl⟩
        have e : trimL l = l.take (j + 1) := by rw [HT.out, take_snoc' HX.out, trimL_snoc_pos _ hx0]
        rw [e]
        exact (Ints.take (l := l) (k := j + 1) ⟨_, _, rfl, h1, h2, h3, H.out⟩ (by omega)).2
    · obtain rfl : k = 0 := by omega
      go_wp2
      go_ret
      refine ⟨_, rfl, ?_, fun B hB => hB.cut (by omega), rfl⟩
      have e : trimL l = l.take 0 := by rw [HT.out]; simp [trimL]
      rw [e]
      exact (Ints.take (l := l) (k := 0) ⟨_, _, rfl, h1, h2, h3, H.out⟩ (by omega)).2

theorem drop_getD {l : List Int} {k : Nat} (h : k < l.length) : l.drop k = l.getD k 0 :: l.drop (k + 1) := by
  rw [List.drop_eq_getElem_cons h]; simp [List.getElem?_eq_getElem h]

theorem addL_step {la lb : List Int} {k : Nat} {c : Int} (hc : 0 ≤ c ∧ c ≤ 1) (h : k < la.length ∨ k < lb.length ∨ 0 < c) :
    addL (la.drop k) (lb.drop k) c = (la.getD k 0 + lb.getD k 0 + c) % 65536 :: addL (la.drop (k + 1)) (lb.drop (k + 1)) ((la.getD k 0 + lb.getD k 0 + c) / 65536) := by
  by_cases h1 : k < la.length
  · rw [drop_getD h1]
    by_cases h2 : k < lb.length
    · rw [drop_getD h2]; simp only [addL]
    · rw [List.drop_of_length_le (l := lb) (i := k) (by omega), List.drop_of_length_le (l := lb) (i := k + 1) (by omega)]
      have : lb.getD k 0 = 0 := by simp [List.getElem?_eq_none (Nat.le_of_not_lt h2)]
      rw [this]; simp only [addL, Int.add_zero]
  · have e1 : la.getD k 0 = 0 := by simp [List.getElem?_eq_none (Nat.le_of_not_lt h1)]
    rw [List.drop_of_length_le (l := la) (i := k) (by omega), List.drop_of_length_le (l := la) (i := k + 1) (by omega), e1]
    by_cases h2 : k < lb.length
    · rw [drop_getD h2]; simp only [addL, Int.zero_add]
    · have e2 : lb.getD k 0 = 0 := by simp [List.getElem?_eq_none (Nat.le_of_not_lt h2)]
      rw [List.drop_of_length_le (l := lb) (i := k) (by omega), List.drop_of_length_le (l := lb) (i := k + 1) (by omega), e2]
      have hc1 : c = 1 := by omega
      subst hc1; simp [addL]

theorem addL_end {la lb : List Int} {k : Nat} {c : Int} (h1 : ¬ k < la.length) (h2 : ¬ k < lb.length) (h3 : ¬ 0 < c) : addL (la.drop k) (lb.drop k) c = [] := by
  rw [List.drop_of_length_le (l := la) (i := k) (by omega), List.drop_of_length_le (l := lb) (i := k) (by omega)]
  simp [addL, h3]

theorem dig_getD {l : List Int} (h : Dig l) (k : Nat) : 0 ≤ l.getD k 0 ∧ l.getD k 0 ≤ 65535 := by
  by_cases hk : k < l.length
  · have := h _ (List.getElem_mem hk)
    simpa [List.getElem?_eq_getElem hk] using this
  · simp [List.getElem?_eq_none (Nat.le_of_not_lt hk)]

theorem addL_len (xs ys : List Int) (c : Int) : (addL xs ys c).length ≤ xs.length + ys.length + 1 := by
  fun_induction addL xs ys c <;> simp_all <;> omega

set_option maxRecDepth 100000 in
set_option maxHeartbeats 800000 in
theorem plusL_any (va vb : Value) (la lb : List Int) (w : World) (ha : Ints .i64 w va la) (hb : Ints .i64 w vb lb) (da : Dig la) (db : Dig lb) (hla : la.length + lb.length ≤ 1000000) :
    Calls Try.prog 208 #[va, vb] w fun e w' => ∃ v, e = .returned v ∧ Ints .i64 w' v (trimL (addL la lb 0)) ∧ Fresh w.heap.size v ∧ Below w.heap.size w w' := by
  have ha0 := Lib.hid ha
  have hb0 := Lib.hid hb
  obtain ⟨aa, ca, rfl, _, _, h3, _⟩ := ha
  obtain ⟨ab, cb, rfl, _, _, h3', _⟩ := hb
  have hlen := addL_len la lb 0
  go_enter Try.func208, Try.ntmps208
  go_wp2
  go_loopw [5, 6, 7] (fun v c i wr => ∃ (k : Nat) (l : List Int) (cc : Int), i = .int .i64 k ∧ c = .int .i64 cc ∧ 0 ≤ cc ∧ cc ≤ 1 ∧ l.length = k ∧ wr.ownsRow w.heap.size 3 1 v l.length (l.map (.int .i64)) ∧ addL la lb 0 = l ++ addL (la.drop k) (lb.drop k) cc ∧ Below w.heap.size w wr) (fun _ _ i _ => (addL la lb 0).length - (intOf i).toNat)
  case atStart => exact ⟨0, [], 0, rfl, rfl, by omega, by omega, rfl, World.ownsRow_nil _ _ _ _, rfl, Below.refl _ _⟩
  case round =>
    obtain ⟨k, l, cc, rfl, rfl, hc0, hc1, hlk, hown, hl, hbl⟩ := hrel
    have hkk : k ≤ la.length + lb.length + 1 := by
      have := congrArg List.length hl; simp at this; omega
    have hll : l.length ≤ la.length + lb.length + 1 := by omega
    have HL := Lib.hid hl; clear hl
    have HK := Lib.hid hlk; clear hlk
    obtain ⟨x, hx⟩ : ∃ x, la.getD k 0 = x := ⟨_, rfl⟩
    obtain ⟨y, hy⟩ : ∃ y, lb.getD k 0 = y := ⟨_, rfl⟩
    have hxb := dig_getD da k
    have hyb := dig_getD db k
    rw [hx] at hxb; rw [hy] at hyb
    have HX := Lib.hid hx; clear hx
    have HY := Lib.hid hy; clear hy
    by_cases hg : k < la.length ∨ k < lb.length ∨ 0 < cc
    · have hst := addL_step ⟨hc0, hc1⟩ hg
      rw [HX.out, HY.out] at hst
      have hkt : k < (addL la lb 0).length := by rw [HL.out, List.length_append, hst, HK.out]; simp
      have HS := Lib.hid hst; clear hst
      have hparts : k < la.length ∨ (la.length ≤ k ∧ k < lb.length) ∨ (la.length ≤ k ∧ lb.length ≤ k ∧ 0 < cc) := by omega
      clear hg
      rcases hparts with h1 | ⟨h1, h2⟩ | ⟨h1, h2, h4⟩
      all_goals
        go_wp2_with fail
        refine (digit_any _ la k _ (ha0.out.below hbl)).mono ?_
        rw [HX.out]; rintro e w1 ⟨rfl, rfl⟩
        go_wp2_with fail
        refine (digit_any _ lb k _ (hb0.out.below hbl)).mono ?_
        rw [HY.out]; rintro e w1 ⟨rfl, rfl⟩
        go_wp2_with (at_builtin; go_must (refine app1 rfl _ _ 237 rfl Try.underlying237 eiInt w.heap.size (by rfl) hown (by rfl) rfl (by simp [Value.oneCell']) (by omega) hbl.size ?_))
        intro v' w' hown' hb' _
        go_wp2
        go_roundw
        case rel =>
          refine ⟨k + 1, l ++ [(x + y + cc) % 65536], (x + y + cc) / 65536, by go_num, rfl, by omega, by omega, by simp [HK.out], ?_, ?_, hbl.trans hb'⟩
          · simpa using hown'
          · rw [HL.out, HS.out]; simp
        case measure => simp [intOf] <;> omega
    · have hend := addL_end (la := la) (lb := lb) (k := k) (c := cc) (by omega) (by omega) (by omega)
      have he := HL.out
      rw [hend, List.append_nil] at he
      have HE := Lib.hid he; clear he hend
      obtain ⟨h1, h2, h4⟩ : la.length ≤ k ∧ lb.length ≤ k ∧ cc ≤ 0 := by omega
      clear hg
      obtain ⟨g1, g2⟩ := Ints.own hown (by have := HK.out; omega)
      go_wp2_with fail
      refine (trim_any _ l _ g2).mono ?_
      rintro e w1 ⟨v', rfl, hv', hfr, rfl⟩
      go_wp2
      go_ret
      exact ⟨v', rfl, by rw [HE.out]; exact hv', hfr _ (Fresh.own hown), hbl⟩

theorem plus_any (va vb : Value) (m n : Nat) (w : World) (ha : Ints .i64 w va (digs m)) (hb : Ints .i64 w vb (digs n)) (hm : (digs m).length + (digs n).length ≤ 1000000) :
    Calls Try.prog 208 #[va, vb] w fun e w' => BigR w e w' (m + n) :=
  (plusL_any va vb _ _ w ha hb (digs_dig m) (digs_dig n) hm).mono fun e w' ⟨v, h1, h2, h3⟩ => ⟨v, h1, by rw [← addL_digs]; exact h2, h3⟩
end Go.Proofs.Ytjmjnkilgoelbaa

namespace Go.Proofs.Ytjmjnkilgoelbaa
open Go.RowKit

def subL : List Int → List Int → Int → List Int
  | [], _, _ => []
  | a :: xs, ys, c => if a - ys.headD 0 - c < 0 then (a - ys.headD 0 - c + 65536) :: subL xs ys.tail 1 else (a - ys.headD 0 - c) :: subL xs ys.tail 0

theorem bv_head (l : List Int) : bv l = (l.headD 0).toNat + 65536 * bv l.tail := by cases l <;> rfl
theorem dig_head {l : List Int} (h : Dig l) : 0 ≤ l.headD 0 ∧ l.headD 0 ≤ 65535 := by
  cases l with
  | nil => simp
  | cons a l => exact h a (by simp)
theorem dig_tail {l : List Int} (h : Dig l) : Dig l.tail := by
  cases l with
  | nil => exact h
  | cons a l => exact fun d hd => h d (by simp at hd; simp [hd])

theorem subL_spec : ∀ (xs ys : List Int) (c : Int), Dig xs → Dig ys → 0 ≤ c → c ≤ 1 → bv ys + c.toNat ≤ bv xs → Dig (subL xs ys c) ∧ bv (subL xs ys c) + bv ys + c.toNat = bv xs := by
  intro xs
  induction xs with
  | nil =>
    intro ys c _ _ _ _ h
    simp only [bv] at h
    exact ⟨fun d hd => by simp [subL] at hd, by simp only [subL, bv]; omega⟩
  | cons a xs ih =>
    intro ys c hx hy h0 h1 h
    have ha := hx a (by simp)
    have hb := dig_head hy
    rw [bv_head ys] at h ⊢
    simp only [bv] at h ⊢
    simp only [subL]
    split
    · obtain ⟨g1, g2⟩ := ih ys.tail 1 (fun d hd => hx d (by simp [hd])) (dig_tail hy) (by omega) (by omega) (by omega)
      refine ⟨fun d hd => ?_, by simp only [bv]; omega⟩
      rcases List.mem_cons.1 hd with h | h
      · subst h; omega
      · exact g1 d h
    · obtain ⟨g1, g2⟩ := ih ys.tail 0 (fun d hd => hx d (by simp [hd])) (dig_tail hy) (by omega) (by omega) (by omega)
      refine ⟨fun d hd => ?_, by simp only [bv]; omega⟩
      rcases List.mem_cons.1 hd with h | h
      · subst h; omega
      · exact g1 d h

theorem subL_digs {m n : Nat} (h : n ≤ m) : trimL (subL (digs m) (digs n) 0) = digs (m - n) := by
  obtain ⟨h1, h2⟩ := subL_spec (digs m) (digs n) 0 (digs_dig m) (digs_dig n) (by omega) (by omega) (by rw [bv_digs, bv_digs]; simpa using h)
  rw [bv_digs, bv_digs] at h2
  rw [trimL_digs h1, show bv (subL (digs m) (digs n) 0) = m - n by simp at h2; omega]

/-- One digit times a row of digits, with what is carried. -/
def mulL (a : Int) : List Int → Int → List Int
  | [], c => [c]
  | b :: ys, c => (a * b + c) % 65536 :: mulL a ys ((a * b + c) / 65536)

theorem prod_small {a b c : Int} (ha : 0 ≤ a ∧ a ≤ 65535) (hb : 0 ≤ b ∧ b ≤ 65535) (hc : 0 ≤ c ∧ c ≤ 65535) : 0 ≤ a * b ∧ a * b + c ≤ 4294967295 - 65535 := by
  have h1 : 0 ≤ a * b := Int.mul_nonneg ha.1 hb.1
  have h2 : a * b ≤ 65535 * 65535 := Int.mul_le_mul ha.2 hb.2 hb.1 (by omega)
  omega

theorem mulL_spec (a : Int) (ha : 0 ≤ a ∧ a ≤ 65535) : ∀ (ys : List Int) (c : Int), Dig ys → 0 ≤ c ∧ c ≤ 65535 → Dig (mulL a ys c) ∧ bv (mulL a ys c) = a.toNat * bv ys + c.toNat := by
  intro ys
  induction ys with
  | nil => intro c _ hc; exact ⟨fun d hd => by simp [mulL] at hd; omega, by simp [mulL, bv]⟩
  | cons b ys ih =>
    intro c hy hc
    have hb := hy b (by simp)
    have hp := prod_small ha hb hc
    obtain ⟨g1, g2⟩ := ih ((a * b + c) / 65536) (fun d hd => hy d (by simp [hd])) ⟨by omega, by omega⟩
    refine ⟨fun d hd => ?_, ?_⟩
    · rcases List.mem_cons.1 hd with h | h
      · subst h; omega
      · exact g1 d h
    · simp only [bv, mulL, g2]
      have e : (a * b).toNat = a.toNat * b.toNat := Int.toNat_mul ha.1 hb.1
      have e2 : a.toNat * (65536 * bv ys) = 65536 * (a.toNat * bv ys) := Nat.mul_left_comm _ _ _
      rw [Nat.mul_add a.toNat b.toNat, e2, ← e, Nat.mul_add]
      omega

theorem mulL_len (a : Int) : ∀ (ys : List Int) (c : Int), (mulL a ys c).length = ys.length + 1 := by
  intro ys
  induction ys with
  | nil => intro c; rfl
  | cons b ys ih => intro c; simp [mulL, ih]

theorem bv_zeros (i : Nat) (l : List Int) : bv (List.replicate i 0 ++ l) = 65536 ^ i * bv l := by
  induction i with
  | zero => simp
  | succ i ih =>
    rw [List.replicate_succ, List.cons_append, bv, ih, Nat.pow_succ, Nat.mul_assoc, Nat.mul_left_comm]
    simp

theorem bv_lt {l : List Int} (h : Dig l) : bv l < 65536 ^ l.length := by
  induction l with
  | nil => simp [bv]
  | cons d l ih =>
    have h0 := h d (by simp)
    have := ih (fun x hx => h x (by simp [hx]))
    simp only [bv, List.length_cons, Nat.pow_succ]
    omega

theorem bv_snoc (l : List Int) (x : Int) : bv (l ++ [x]) = bv l + 65536 ^ l.length * x.toNat := by rw [bv_append]; simp [bv]

theorem bv_take_succ {l : List Int} {k : Nat} {x : Int} (h : l[k]? = some x) : bv (l.take (k + 1)) = bv (l.take k) + 65536 ^ k * x.toNat := by
  have hk : k < l.length := (List.getElem?_eq_some_iff.1 h).1
  rw [take_snoc' h, bv_snoc, List.length_take, Nat.min_eq_left (by omega)]

theorem dig_take {l : List Int} (h : Dig l) (k : Nat) : Dig (l.take k) := fun d hd => h d (List.mem_of_mem_take hd)

/-- The next row of a product. -/
theorem times_step {la : List Int} {k n : Nat} {x : Int} (hd : Dig la) (hx : la[k]? = some x) :
    digs (bv (la.take k) * n + bv (trimL (List.replicate k 0 ++ mulL x (digs n) 0))) = digs (bv (la.take (k + 1)) * n) ∧ Dig (List.replicate k 0 ++ mulL x (digs n) 0) := by
  have hx0 := hd x (List.mem_of_getElem? hx)
  obtain ⟨g1, g2⟩ := mulL_spec x hx0 (digs n) 0 (digs_dig n) (by omega)
  have gd : Dig (List.replicate k 0 ++ mulL x (digs n) 0) := fun d hd' => by
    rcases List.mem_append.1 hd' with h | h
    · have := (List.mem_replicate.1 h).2; omega
    · exact g1 d h
  refine ⟨?_, gd⟩
  rw [trimL_digs gd, bv_digs, bv_zeros, g2, bv_digs, bv_take_succ hx]
  congr 1
  rw [Nat.add_mul, Nat.mul_assoc]
  simp

theorem digs_lt_pow (n : Nat) : n < 65536 ^ (digs n).length := by
  have := bv_lt (digs_dig n)
  rwa [bv_digs] at this

theorem canon_ge : ∀ {l : List Int}, Canon l → Dig l → l ≠ [] → 65536 ^ (l.length - 1) ≤ bv l := by
  intro l
  induction l with
  | nil => intro _ _ h; exact absurd rfl h
  | cons d l ih =>
    intro hc hd _
    cases l with
    | nil => have : 0 < d := hc; simp [bv]; omega
    | cons e l =>
      have := ih hc (fun x hx => hd x (by simp [hx])) (by simp)
      simp only [List.length_cons, Nat.add_sub_cancel, bv, Nat.pow_succ] at this ⊢
      omega

theorem digs_len_lt {m n : Nat} (h : (digs m).length < (digs n).length) : m < n := by
  have h1 := digs_lt_pow m
  have h2 := canon_ge (canon_digs n) (digs_dig n) (by intro h0; rw [h0] at h; simp at h)
  rw [bv_digs] at h2
  have h3 : 65536 ^ (digs m).length ≤ 65536 ^ ((digs n).length - 1) := Nat.pow_le_pow_right (by omega) (by omega)
  omega

theorem bv_split {l : List Int} {k : Nat} {x : Int} (h : l[k]? = some x) : bv l = bv (l.take k) + 65536 ^ k * (x.toNat + 65536 * bv (l.drop (k + 1))) := by
  have hk : k < l.length := (List.getElem?_eq_some_iff.1 h).1
  have e : l = l.take k ++ (x :: l.drop (k + 1)) := by
    have hxx : l[k]'hk = x := (List.getElem?_eq_some_iff.1 h).2
    rw [← hxx, ← List.drop_eq_getElem_cons hk, List.take_append_drop]
  have := congrArg bv e
  rw [bv_append, List.length_take, Nat.min_eq_left (by omega)] at this
  simpa [bv] using this

theorem bv_lt_of {la lb : List Int} {k : Nat} {x y : Int} (da : Dig la) (db : Dig lb) (hx : la[k]? = some x) (hy : lb[k]? = some y) (hd : la.drop (k + 1) = lb.drop (k + 1)) (h : x < y) : bv la < bv lb := by
  rw [bv_split hx, bv_split hy, hd]
  have hk : k < la.length := (List.getElem?_eq_some_iff.1 hx).1
  have h1 := bv_lt (dig_take da k)
  rw [List.length_take, Nat.min_eq_left (by omega)] at h1
  have hx0 := da x (List.mem_of_getElem? hx)
  have hy0 := db y (List.mem_of_getElem? hy)
  have h2 : 65536 ^ k * (x.toNat + 65536 * bv (lb.drop (k + 1)) + 1) ≤ 65536 ^ k * (y.toNat + 65536 * bv (lb.drop (k + 1))) := Nat.mul_le_mul_left _ (by omega)
  rw [Nat.mul_add _ _ 1] at h2
  omega

def ordI (m n : Nat) : Int := if m < n then -1 else if n < m then 1 else 0

end Go.Proofs.Ytjmjnkilgoelbaa

namespace Go.Proofs.Ytjmjnkilgoelbaa
open Go.RowKit

theorem subL_len : ∀ (xs ys : List Int) (c : Int), (subL xs ys c).length = xs.length := by
  intro xs
  induction xs with
  | nil => intro ys c; rfl
  | cons a xs ih => intro ys c; simp only [subL]; split <;> simp [ih]

theorem subL_step {la lb : List Int} {k : Nat} {c x y : Int} (hx : la[k]? = some x) (hy : lb.getD k 0 = y) :
    subL (la.drop k) (lb.drop k) c = if x - y - c < 0 then (x - y - c + 65536) :: subL (la.drop (k + 1)) (lb.drop (k + 1)) 1 else (x - y - c) :: subL (la.drop (k + 1)) (lb.drop (k + 1)) 0 := by
  have hk : k < la.length := (List.getElem?_eq_some_iff.1 hx).1
  have e1 : (lb.drop k).headD 0 = y := by rw [← hy]; simp
  have e2 : (lb.drop k).tail = lb.drop (k + 1) := by simp
  have e3 : la.drop k = x :: la.drop (k + 1) := by rw [drop_getD hk, getD_of hx]
  rw [e3]
  simp only [subL, e1, e2]

set_option maxRecDepth 100000 in
set_option maxHeartbeats 800000 in
theorem minusL_any (va vb : Value) (la lb : List Int) (w : World) (ha : Ints .i64 w va la) (hb : Ints .i64 w vb lb) (da : Dig la) (db : Dig lb) (hla : la.length ≤ 1000000) :
    Calls Try.prog 209 #[va, vb] w fun e w' => ∃ v, e = .returned v ∧ Ints .i64 w' v (trimL (subL la lb 0)) ∧ Fresh w.heap.size v ∧ Below w.heap.size w w' := by
  have ha0 := Lib.hid ha
  have hb0 := Lib.hid hb
  obtain ⟨aa, ca, rfl, _, _, h3, hA⟩ := ha
  obtain ⟨ab, cb, rfl, _, _, h3', _⟩ := hb
  have HA := Lib.hid hA; clear hA
  go_enter Try.func209, Try.ntmps209
  go_wp2
  go_loopw [5, 6, 7] (fun v c i wr => ∃ (k : Nat) (l : List Int) (cc : Int), i = .int .i64 k ∧ c = .int .i64 cc ∧ 0 ≤ cc ∧ cc ≤ 1 ∧ l.length = k ∧ k ≤ la.length ∧ wr.ownsRow w.heap.size 3 1 v l.length (l.map (.int .i64)) ∧ subL la lb 0 = l ++ subL (la.drop k) (lb.drop k) cc ∧ Below w.heap.size w wr) (fun _ _ i _ => la.length - (intOf i).toNat)
  case atStart => exact ⟨0, [], 0, rfl, rfl, by omega, by omega, rfl, by omega, World.ownsRow_nil _ _ _ _, rfl, Below.refl _ _⟩
  case round =>
    obtain ⟨k, l, cc, rfl, rfl, hc0, hc1, hlk, hkl, hown, hl, hbl⟩ := hrel
    have hll : l.length ≤ la.length := by omega
    have HL := Lib.hid hl; clear hl
    have HK := Lib.hid hlk; clear hlk
    by_cases hg : k < la.length
    · obtain ⟨x, hx⟩ := getElem?_ex hg
      obtain ⟨y, hy⟩ : ∃ y, lb.getD k 0 = y := ⟨_, rfl⟩
      have hxb := da x (List.mem_of_getElem? hx)
      have hyb := dig_getD db k
      rw [hy] at hyb
      obtain ⟨b1, o1, rfl, hb1, hc1'⟩ := HA.out k x hx
      have hcell := (hbl.cell (p := ⟨b1, o1 + k, none⟩) hb1).trans hc1'
      clear hc1'
      have hst := subL_step (c := cc) hx hy
      have HS := Lib.hid hst; clear hst
      have hdig : ∀ n, Calls Try.prog 219 #[.slice ab lb.length cb, .int .i64 k] (wr.drewN n) fun e w' => e = .returned (.int .i64 y) ∧ wr.drewN n = w' := fun n => by
        have := digit_any _ lb k _ ((hb0.out.below hbl).drewN n)
        rw [hy] at this; exact this
      have HDG := Lib.hid hdig; clear hdig
      have HX := Lib.hid hx; clear hx
      have HY := Lib.hid hy; clear hy
      go_wp2
      go_quiet ((go_at_call 219; exact quiet_left (HDG.out _)))
      by_cases hneg : x - y - cc < 0
      all_goals
        go_wp2_with (at_builtin; go_must (refine app1 rfl _ _ 237 rfl Try.underlying237 eiInt w.heap.size (by rfl) hown (by rfl) rfl (by simp [Value.oneCell']) (by omega) hbl.size ?_))
        intro v' w' hown' hb' _
        go_wp2
        go_roundw
        case rel => first
          | exact ⟨k + 1, l ++ [x - y - cc + 65536], 1, by go_num, rfl, by omega, by omega, by simp [HK.out], by omega, by simpa using hown', by rw [HL.out, HS.out, if_pos (by omega)]; simp, (below_drewN hbl nq).trans hb'⟩
          | exact ⟨k + 1, l ++ [x - y - cc], 0, by go_num, rfl, by omega, by omega, by simp [HK.out], by omega, by simpa using hown', by rw [HL.out, HS.out, if_neg (by omega)]; simp, (below_drewN hbl nq).trans hb'⟩
        case measure => simp [intOf] <;> omega
    · obtain rfl : k = la.length := by omega
      have he := HL.out
      rw [List.drop_of_length_le (l := la) (Nat.le_refl _)] at he
      simp only [subL, List.append_nil] at he
      have HE := Lib.hid he; clear he
      obtain ⟨g1, g2⟩ := Ints.own hown (by omega)
      go_wp2_with fail
      refine (trim_any _ l _ g2).mono ?_
      rintro e w1 ⟨v', rfl, hv', hfr, rfl⟩
      go_wp2
      go_ret
      exact ⟨v', rfl, by rw [HE.out]; exact hv', hfr _ (Fresh.own hown), hbl⟩

theorem minus_any (va vb : Value) (m n : Nat) (w : World) (ha : Ints .i64 w va (digs m)) (hb : Ints .i64 w vb (digs n)) (hm : (digs m).length ≤ 1000000) (hle : n ≤ m) :
    Calls Try.prog 209 #[va, vb] w fun e w' => BigR w e w' (m - n) :=
  (minusL_any va vb _ _ w ha hb (digs_dig m) (digs_dig n) hm).mono fun e w' ⟨v, h1, h2, h3⟩ => ⟨v, h1, by rw [← subL_digs hle]; exact h2, h3⟩

set_option maxHeartbeats 800000 in
theorem order_any (va vb : Value) (m n : Nat) (w : World) (ha : Ints .i64 w va (digs m)) (hb : Ints .i64 w vb (digs n)) :
    Calls Try.prog 207 #[va, vb] w fun e w' => e = .returned (.int .i64 (ordI m n)) ∧ ∃ d, w' = w.drewN d := by
  obtain ⟨la, hla⟩ : ∃ la, digs m = la := ⟨_, rfl⟩
  obtain ⟨lb, hlb⟩ : ∃ lb, digs n = lb := ⟨_, rfl⟩
  rw [hla] at ha
  rw [hlb] at hb
  have MA : Hid (digs m = la) := hla
  have MB : Hid (digs n = lb) := hlb
  have da : Dig la := by rw [← hla]; exact digs_dig m
  have db : Dig lb := by rw [← hlb]; exact digs_dig n
  have va' : bv la = m := by rw [← hla]; exact bv_digs m
  have vb' : bv lb = n := by rw [← hlb]; exact bv_digs n
  have VA := Lib.hid va'; clear va'
  have VB := Lib.hid vb'; clear vb'
  have DA := Lib.hid da; clear da
  have DB := Lib.hid db; clear db
  have hlen1 : la.length < lb.length → m < n := fun h => digs_len_lt (by rw [hla, hlb]; exact h)
  have hlen2 : lb.length < la.length → n < m := fun h => digs_len_lt (by rw [hla, hlb]; exact h)
  have H1 := Lib.hid hlen1; clear hlen1
  have H2 := Lib.hid hlen2; clear hlen2
  clear hla hlb
  obtain ⟨aa, ca, rfl, _, _, h3, hA⟩ := ha
  obtain ⟨ab, cb, rfl, _, _, h3', hB⟩ := hb
  have HA := Lib.hid hA; clear hA
  have HB := Lib.hid hB; clear hB
  obtain ⟨q, hq⟩ : ∃ q, lb.length = q := ⟨_, rfl⟩
  rw [hq] at h3' ⊢
  have HQ := Lib.hid hq; clear hq
  by_cases hl : la.length = q
  · obtain rfl := hl
    have hb : ((la.length : Int) != la.length) = false := by simp
    go_enter Try.func207, Try.ntmps207
    go_wp2
    go_loopw [5] (fun i wr => ∃ k : Nat, k ≤ la.length ∧ i = .int .i64 ((k : Int) - 1) ∧ la.drop k = lb.drop k ∧ ∃ d, wr = w.drewN d) (fun i _ => (intOf i + 1).toNat)
    case atStart => exact ⟨la.length, Nat.le_refl _, rfl, by rw [List.drop_of_length_le (Nat.le_refl _), List.drop_of_length_le (by rw [HQ.out]; omega)], 0, rfl⟩
    case round =>
      obtain ⟨k, hk, rfl, hdr, d, rfl⟩ := hrel
      have HD := Lib.hid hdr; clear hdr
      by_cases h0 : 0 < k
      · obtain ⟨j, hj⟩ : ∃ j, k = j + 1 := ⟨k - 1, by omega⟩
        subst hj
        have e1 : ((j + 1 : Nat) : Int) - 1 = j := by omega
        rw [e1]
        clear e1
        have hjl : j < la.length := by omega
        obtain ⟨x, hx⟩ := getElem?_ex hjl
        obtain ⟨y, hy⟩ := getElem?_ex (l := lb) (k := j) (by rw [HQ.out]; exact hjl)
        obtain ⟨b1, o1, rfl, hb1, hc1⟩ := HA.out j x hx
        obtain ⟨b2, o2, rfl, hb2, hc2⟩ := HB.out j y hy
        have HX := Lib.hid hx; clear hx
        have HY := Lib.hid hy; clear hy
        go_wp2
        go_quiet (fail)
        by_cases hxy : x < y
        · go_wp2
          go_ret
          refine ⟨ret_int ?_, _, World.drewN_drewN _ _ _⟩
          have := bv_lt_of DA.out DB.out HX.out HY.out HD.out hxy
          rw [VA.out, VB.out] at this
          simp [ordI, this]
        · go_wp2
          go_quiet (fail)
          by_cases hyx : y < x
          · go_wp2
            go_ret
            refine ⟨ret_int ?_, _, World.drewN_drewN _ _ _⟩
            have := bv_lt_of DB.out DA.out HY.out HX.out HD.out.symm hyx
            rw [VA.out, VB.out] at this
            simp [ordI, this, Nat.lt_asymm this]
          · go_wp2
            go_roundw
            case rel =>
              refine ⟨j, by omega, rfl, ?_, _, rfl⟩
              have : x = y := by omega
              rw [drop_getD hjl, drop_getD (l := lb) (k := j) (by rw [HQ.out]; exact hjl), getD_of HX.out, getD_of HY.out, HD.out, this]
            case measure => simp [intOf] <;> omega
      · obtain rfl : k = 0 := by omega
        go_wp2
        go_ret
        refine ⟨ret_int ?_, _, rfl⟩
        have hp := HD.out
        simp only [List.drop_zero] at hp
        have : m = n := by rw [← VA.out, ← VB.out, hp]
        simp [ordI, this]
  · have hb : ((la.length : Int) != q) = true := by simp; omega
    by_cases hlt : la.length < q
    all_goals
      go_enter Try.func207, Try.ntmps207
      go_wp2
      go_ret
      refine ⟨ret_int ?_, 0, rfl⟩
    · have := H1.out (by rw [HQ.out]; exact hlt)
      simp [ordI, this]
    · have := H2.out (by rw [HQ.out]; omega)
      simp [ordI, this, Nat.lt_asymm this]
end Go.Proofs.Ytjmjnkilgoelbaa

namespace Go.Proofs.Ytjmjnkilgoelbaa
open Go.RowKit

def WholeR (w : World) (v : Value) (z : Int) : Prop :=
  ∃ neg vb, v = .agg #[.bool neg, vb] ∧ Ints .i64 w vb (digs z.natAbs) ∧ (neg = true → z ≤ 0) ∧ (neg = false → 0 ≤ z)

theorem WholeR.below {w w' : World} {v : Value} {z : Int} (h : WholeR w v z) (hb : Below w.heap.size w w') : WholeR w' v z := by
  obtain ⟨neg, vb, rfl, h1, h2, h3⟩ := h
  exact ⟨neg, vb, rfl, h1.below hb, h2, h3⟩

def Sm (n : Nat) : Prop := (digs n).length ≤ 400000
theorem Sm.of {n : Nat} {k : Nat} (h : n < 65536 ^ k) (hk : k ≤ 400000) : Sm n := Nat.le_trans (digs_len n k h) hk

def WFresh (B : Nat) (v : Value) : Prop := ∃ neg vb, v = .agg #[.bool neg, vb] ∧ Fresh B vb
def WholeP (w : World) (e : Ending) (w' : World) (z : Int) : Prop := ∃ v, e = .returned v ∧ WholeR w' v z ∧ WFresh w.heap.size v ∧ Below w.heap.size w w'

attribute [local go_sem ↓] Go.wp_at_zero Go.wp_at_succ

set_option maxRecDepth 100000 in
set_option maxHeartbeats 400000 in
theorem int_any (a : Int) (w : World) (h1 : -9223372036854775808 ≤ a) (h2 : a ≤ 9223372036854775807) :
    Calls Try.prog 187 #[.int .i64 a] w fun e w' => WholeP w e w' a := by
  have hb0 : Below w.heap.size w (w.alloc (.cells #[.bool false, .slice none 0 0] 239)) := (Below.refl _ _).alloc (Nat.le_refl _) _
  by_cases hn : a < 0
  · have hof := of_any a.natAbs (w.alloc (.cells #[.bool false, .slice none 0 0] 239)) (by omega)
    rw [show ((a.natAbs : Nat) : Int) = -(a + 1) + 1 by omega] at hof
    have HOF := Lib.hid hof; clear hof
    go_enter Try.func187, Try.ntmps187
    go_wp2_with (go_at_call 206; refine (HOF.out).mono ?_; rintro e w1 ⟨v, rfl, hv, hfv, hbw⟩; obtain ⟨av, cv, hve⟩ := hv.shape; subst hve; have c0_0 := hbw.cell (p := ⟨w.heap.size, 0, none⟩) (by first | omega | (simp <;> omega)); have f0_0 := hbw.frozen (p := ⟨w.heap.size, 0, none⟩) (by first | omega | (simp <;> omega)); have c0_1 := hbw.cell (p := ⟨w.heap.size, 1, none⟩) (by first | omega | (simp <;> omega)); have f0_1 := hbw.frozen (p := ⟨w.heap.size, 1, none⟩) (by first | omega | (simp <;> omega)); have hz : w.heap.size < w1.heap.size := by have := hbw.size; simp at this; omega)
    refine bodyPost_ret (v := .agg #[.bool true, .slice av (digs a.natAbs).length cv]) (by simp [results, Try.results187, go_sem, *]) rfl ⟨_, rfl, ⟨_, _, rfl, ?_, by omega, by simp⟩, ⟨_, _, rfl, hfv.mono (by simp)⟩, ?_⟩
    · exact (hv.setCell hfv (by simp) _).setCell hfv (by simp) _
    · exact ((hb0.trans (hbw.mono (by simp))).setCell (Nat.le_refl _) _).setCell (Nat.le_refl _) _
  · have hof := of_any a.natAbs (w.alloc (.cells #[.bool false, .slice none 0 0] 239)) (by omega)
    rw [show ((a.natAbs : Nat) : Int) = a by omega] at hof
    have HOF := Lib.hid hof; clear hof
    go_enter Try.func187, Try.ntmps187
    go_wp2_with (go_at_call 206; refine (HOF.out).mono ?_; rintro e w1 ⟨v, rfl, hv, hfv, hbw⟩; obtain ⟨av, cv, hve⟩ := hv.shape; subst hve; have c0_0 := hbw.cell (p := ⟨w.heap.size, 0, none⟩) (by first | omega | (simp <;> omega)); have f0_0 := hbw.frozen (p := ⟨w.heap.size, 0, none⟩) (by first | omega | (simp <;> omega)); have c0_1 := hbw.cell (p := ⟨w.heap.size, 1, none⟩) (by first | omega | (simp <;> omega)); have f0_1 := hbw.frozen (p := ⟨w.heap.size, 1, none⟩) (by first | omega | (simp <;> omega)); have hz : w.heap.size < w1.heap.size := by have := hbw.size; simp at this; omega)
    refine bodyPost_ret (v := .agg #[.bool false, .slice av (digs a.natAbs).length cv]) (by simp [results, Try.results187, go_sem, *]) rfl ⟨_, rfl, ⟨_, _, rfl, ?_, by simp, by omega⟩, ⟨_, _, rfl, hfv.mono (by simp)⟩, ?_⟩
    · exact (hv.setCell hfv (by simp) _).setCell hfv (by simp) _
    · exact ((hb0.trans (hbw.mono (by simp))).setCell (Nat.le_refl _) _).setCell (Nat.le_refl _) _

theorem shape_agg {w : World} {v : Value} {z : Int} (h : WholeR w v z) : ∃ neg a n c, v = .agg #[.bool neg, .slice a n c] := by
  obtain ⟨neg, vb, rfl, h1, _⟩ := h
  obtain ⟨a, c, rfl⟩ := h1.shape
  exact ⟨_, _, _, _, rfl⟩

set_option maxRecDepth 100000 in
set_option maxHeartbeats 1000000 in
theorem both_any (va vb : Value) (a b : Int) (w : World) (ha : WholeR w va a) (hb : WholeR w vb b) (sa : Sm a.natAbs) (sb : Sm b.natAbs) :
    Calls Try.prog 186 #[va, vb] w fun e w' => WholeP w e w' (a + b) := by
  obtain ⟨na, xa, rfl, ha1, ha2, ha3⟩ := ha
  obtain ⟨nb, xb, rfl, hb1, hb2, hb3⟩ := hb
  have HA2 := Lib.hid ha2; clear ha2
  have HB2 := Lib.hid hb2; clear hb2
  have HA3 := Lib.hid ha3; clear ha3
  have HB3 := Lib.hid hb3; clear hb3
  have hb0 : Below w.heap.size w (((w.alloc (.cells #[.bool na, xa] 239)).alloc (.cells #[.bool nb, xb] 239)).alloc (.cells #[.bool false, .slice none 0 0] 239)) :=
      (((Below.refl _ _).alloc (Nat.le_refl _) _).alloc (by simp) _).alloc (by simp; omega) _
  have HA1 := Lib.hid (ha1.below hb0)
  have HB1 := Lib.hid (hb1.below hb0)
  clear ha1 hb1
  have HS : Hid ((digs a.natAbs).length + (digs b.natAbs).length ≤ 1000000 ∧ (digs a.natAbs).length ≤ 1000000 ∧ (digs b.natAbs).length ≤ 1000000) := by unfold Sm at sa sb; exact ⟨by omega, by omega, by omega⟩
  clear sa sb
  have HBZ := Lib.hid hb0; clear hb0
  by_cases hs : na = nb
  · subst hs
    have hq : (na == na) = true := by simp
    go_enter Try.func186, Try.ntmps186
    go_wp2
    go_region_held3 (fun w' => w'.cell? ⟨w.heap.size, 0, none⟩ = some (.bool na) ∧ w'.cell? ⟨w.heap.size, 1, none⟩ = some (xa) ∧ w'.cell? ⟨w.heap.size + 1, 1, none⟩ = some (xb)) (first | (go_simp; done) | (go_keep; done) | (refine ⟨?_, ?_, ?_⟩ <;> first | (go_simp; done) | (go_keep; done))) (first | (go_at_call 208; refine (plus_any _ _ a.natAbs b.natAbs _ (HA1.out.drewN 1) (HB1.out.drewN 1) HS.out.1).mono ?_; rintro e w1 ⟨v, rfl, hv, hfv, hbw⟩; obtain ⟨av, cv, hve⟩ := hv.shape; subst hve; have c0_0 := hbw.cell (p := ⟨w.heap.size, 0, none⟩) (by first | omega | (simp <;> omega)); have f0_0 := hbw.frozen (p := ⟨w.heap.size, 0, none⟩) (by first | omega | (simp <;> omega)); have c0_1 := hbw.cell (p := ⟨w.heap.size, 1, none⟩) (by first | omega | (simp <;> omega)); have f0_1 := hbw.frozen (p := ⟨w.heap.size, 1, none⟩) (by first | omega | (simp <;> omega)); have c1_0 := hbw.cell (p := ⟨w.heap.size + 1, 0, none⟩) (by first | omega | (simp <;> omega)); have f1_0 := hbw.frozen (p := ⟨w.heap.size + 1, 0, none⟩) (by first | omega | (simp <;> omega)); have c1_1 := hbw.cell (p := ⟨w.heap.size + 1, 1, none⟩) (by first | omega | (simp <;> omega)); have f1_1 := hbw.frozen (p := ⟨w.heap.size + 1, 1, none⟩) (by first | omega | (simp <;> omega)); have c2_0 := hbw.cell (p := ⟨w.heap.size + 1 + 1, 0, none⟩) (by first | omega | (simp <;> omega)); have f2_0 := hbw.frozen (p := ⟨w.heap.size + 1 + 1, 0, none⟩) (by first | omega | (simp <;> omega)); have c2_1 := hbw.cell (p := ⟨w.heap.size + 1 + 1, 1, none⟩) (by first | omega | (simp <;> omega)); have f2_1 := hbw.frozen (p := ⟨w.heap.size + 1 + 1, 1, none⟩) (by first | omega | (simp <;> omega)); have hz : w.heap.size + 1 + 1 < w1.heap.size := by have := hbw.size; simp at this; omega))
    go_wp2
    have e0 : (a + b).natAbs = a.natAbs + b.natAbs := by
      have := HA2.out; have := HB2.out; have := HA3.out; have := HB3.out
      cases na <;> simp_all <;> omega
    refine bodyPost_ret (v := .agg #[.bool na, .slice av (digs (a.natAbs + b.natAbs)).length cv]) (by simp [results, Try.results186, go_sem, *]) rfl ⟨_, rfl, ⟨_, _, rfl, ?_, fun h => ?_, fun h => ?_⟩, ⟨_, _, rfl, hfv.mono (by simp; omega)⟩, ?_⟩
    · rw [e0]; exact (hv.setCell hfv (by simp) _).setCell hfv (by simp) _
    · have := HA2.out h; have := HB2.out h; omega
    · have := HA3.out h; have := HB3.out h; omega
    · exact ((HBZ.out.drew.trans (hbw.mono (by simp; omega))).setCell (by simp; omega) _).setCell (by simp; omega) _
  · have hq : (na == nb) = false := by simp [hs]
    have HNN := Lib.hid hs; clear hs
    have hor := order_any xa xb a.natAbs b.natAbs _ HA1.out HB1.out
    have HOR := Lib.hid hor; clear hor
    obtain ⟨r, hr⟩ : ∃ r, ordI a.natAbs b.natAbs = r := ⟨_, rfl⟩
    rw [hr] at HOR
    by_cases hge : 0 ≤ r
    · have hle : b.natAbs ≤ a.natAbs := by rw [← hr] at hge; unfold ordI at hge; split at hge <;> omega
      have HR := Lib.hid hr; clear hr
      go_enter Try.func186, Try.ntmps186
      go_wp2_with (go_at_call 207; refine HOR.out.mono ?_; rintro e w0 ⟨rfl, d, rfl⟩)
      go_region_held3 (fun w' => w'.cell? ⟨w.heap.size, 0, none⟩ = some (.bool na) ∧ w'.cell? ⟨w.heap.size, 1, none⟩ = some (xa) ∧ w'.cell? ⟨w.heap.size + 1, 1, none⟩ = some (xb)) (first | (go_simp; done) | (go_keep; done) | (refine ⟨?_, ?_, ?_⟩ <;> first | (go_simp; done) | (go_keep; done))) (first | (go_at_call 209; refine (minus_any _ _ a.natAbs b.natAbs _ (HA1.out.drewN _) (HB1.out.drewN _) HS.out.2.1 hle).mono ?_; rintro e w1 ⟨v, rfl, hv, hfv, hbw⟩; obtain ⟨av, cv, hve⟩ := hv.shape; subst hve; have c0_0 := hbw.cell (p := ⟨w.heap.size, 0, none⟩) (by first | omega | (simp <;> omega)); have f0_0 := hbw.frozen (p := ⟨w.heap.size, 0, none⟩) (by first | omega | (simp <;> omega)); have c0_1 := hbw.cell (p := ⟨w.heap.size, 1, none⟩) (by first | omega | (simp <;> omega)); have f0_1 := hbw.frozen (p := ⟨w.heap.size, 1, none⟩) (by first | omega | (simp <;> omega)); have c1_0 := hbw.cell (p := ⟨w.heap.size + 1, 0, none⟩) (by first | omega | (simp <;> omega)); have f1_0 := hbw.frozen (p := ⟨w.heap.size + 1, 0, none⟩) (by first | omega | (simp <;> omega)); have c1_1 := hbw.cell (p := ⟨w.heap.size + 1, 1, none⟩) (by first | omega | (simp <;> omega)); have f1_1 := hbw.frozen (p := ⟨w.heap.size + 1, 1, none⟩) (by first | omega | (simp <;> omega)); have c2_0 := hbw.cell (p := ⟨w.heap.size + 1 + 1, 0, none⟩) (by first | omega | (simp <;> omega)); have f2_0 := hbw.frozen (p := ⟨w.heap.size + 1 + 1, 0, none⟩) (by first | omega | (simp <;> omega)); have c2_1 := hbw.cell (p := ⟨w.heap.size + 1 + 1, 1, none⟩) (by first | omega | (simp <;> omega)); have f2_1 := hbw.frozen (p := ⟨w.heap.size + 1 + 1, 1, none⟩) (by first | omega | (simp <;> omega)); have hz : w.heap.size + 1 + 1 < w1.heap.size := by have := hbw.size; simp at this; omega))
      go_wp2
      have e0 : (a + b).natAbs = a.natAbs - b.natAbs := by
        have := HA2.out; have := HB2.out; have := HA3.out; have := HB3.out; have := HNN.out
        cases na <;> cases nb <;> simp_all <;> omega
      refine bodyPost_ret (v := .agg #[.bool na, .slice av (digs (a.natAbs - b.natAbs)).length cv]) (by simp [results, Try.results186, go_sem, *]) rfl ⟨_, rfl, ⟨_, _, rfl, ?_, fun h => ?_, fun h => ?_⟩, ⟨_, _, rfl, hfv.mono (by simp; omega)⟩, ?_⟩
      · rw [e0]; exact (hv.setCell hfv (by simp) _).setCell hfv (by simp) _
      · have := HA2.out h; omega
      · have := HA3.out h; omega
      · exact (((below_drewN HBZ.out _).trans (hbw.mono (by simp; omega))).setCell (by simp; omega) _).setCell (by simp; omega) _
    · have hle : a.natAbs < b.natAbs := by rw [← hr] at hge; unfold ordI at hge; split at hge <;> omega
      have HR := Lib.hid hr; clear hr
      go_enter Try.func186, Try.ntmps186
      go_wp2_with (go_at_call 207; refine HOR.out.mono ?_; rintro e w0 ⟨rfl, d, rfl⟩)
      go_region_held3 (fun w' => w'.cell? ⟨w.heap.size + 1, 0, none⟩ = some (.bool nb) ∧ w'.cell? ⟨w.heap.size, 1, none⟩ = some (xa) ∧ w'.cell? ⟨w.heap.size + 1, 1, none⟩ = some (xb)) (first | (go_simp; done) | (go_keep; done) | (refine ⟨?_, ?_, ?_⟩ <;> first | (go_simp; done) | (go_keep; done))) (first | (go_at_call 209; refine (minus_any _ _ b.natAbs a.natAbs _ (HB1.out.drewN _) (HA1.out.drewN _) HS.out.2.2 (Nat.le_of_lt hle)).mono ?_; rintro e w1 ⟨v, rfl, hv, hfv, hbw⟩; obtain ⟨av, cv, hve⟩ := hv.shape; subst hve; have c0_0 := hbw.cell (p := ⟨w.heap.size, 0, none⟩) (by first | omega | (simp <;> omega)); have f0_0 := hbw.frozen (p := ⟨w.heap.size, 0, none⟩) (by first | omega | (simp <;> omega)); have c0_1 := hbw.cell (p := ⟨w.heap.size, 1, none⟩) (by first | omega | (simp <;> omega)); have f0_1 := hbw.frozen (p := ⟨w.heap.size, 1, none⟩) (by first | omega | (simp <;> omega)); have c1_0 := hbw.cell (p := ⟨w.heap.size + 1, 0, none⟩) (by first | omega | (simp <;> omega)); have f1_0 := hbw.frozen (p := ⟨w.heap.size + 1, 0, none⟩) (by first | omega | (simp <;> omega)); have c1_1 := hbw.cell (p := ⟨w.heap.size + 1, 1, none⟩) (by first | omega | (simp <;> omega)); have f1_1 := hbw.frozen (p := ⟨w.heap.size + 1, 1, none⟩) (by first | omega | (simp <;> omega)); have c2_0 := hbw.cell (p := ⟨w.heap.size + 1 + 1, 0, none⟩) (by first | omega | (simp <;> omega)); have f2_0 := hbw.frozen (p := ⟨w.heap.size + 1 + 1, 0, none⟩) (by first | omega | (simp <;> omega)); have c2_1 := hbw.cell (p := ⟨w.heap.size + 1 + 1, 1, none⟩) (by first | omega | (simp <;> omega)); have f2_1 := hbw.frozen (p := ⟨w.heap.size + 1 + 1, 1, none⟩) (by first | omega | (simp <;> omega)); have hz : w.heap.size + 1 + 1 < w1.heap.size := by have := hbw.size; simp at this; omega))
      go_wp2
      have e0 : (a + b).natAbs = b.natAbs - a.natAbs := by
        have := HA2.out; have := HB2.out; have := HA3.out; have := HB3.out; have := HNN.out
        cases na <;> cases nb <;> simp_all <;> omega
      refine bodyPost_ret (v := .agg #[.bool nb, .slice av (digs (b.natAbs - a.natAbs)).length cv]) (by simp [results, Try.results186, go_sem, *]) rfl ⟨_, rfl, ⟨_, _, rfl, ?_, fun h => ?_, fun h => ?_⟩, ⟨_, _, rfl, hfv.mono (by simp; omega)⟩, ?_⟩
      · rw [e0]; exact (hv.setCell hfv (by simp) _).setCell hfv (by simp) _
      · have := HB2.out h; omega
      · have := HB3.out h; omega
      · exact (((below_drewN HBZ.out _).trans (hbw.mono (by simp; omega))).setCell (by simp; omega) _).setCell (by simp; omega) _
end Go.Proofs.Ytjmjnkilgoelbaa

namespace Go.Proofs.Ytjmjnkilgoelbaa
open Go.RowKit

theorem Sm.len {m : Nat} (h : (digs m).length ≤ 1000) : Sm m := by unfold Sm; omega

theorem Ints.nil (k : IntKind) (w : World) : Ints k w (.slice none 0 0) [] := ⟨none, 0, rfl, by simp, by omega, by simp, fun i x h => by simp at h⟩

theorem digs_mul_len {m n : Nat} : (digs (m * n)).length ≤ (digs m).length + (digs n).length := by
  refine digs_len _ _ ?_
  rw [Nat.pow_add]
  exact Nat.mul_lt_mul'' (digs_lt_pow m) (digs_lt_pow n)

theorem made_ints' (k : IntKind) (n : Nat) : (madeCells #[.int k 0] n).toList = (List.replicate n (0 : Int)).map (Value.int k) := by
  have := made_ints k n
  rwa [Nat.mul_one] at this

theorem mulL_step {x c y : Int} {l : List Int} {j : Nat} (h : l[j]? = some y) : mulL x (l.drop j) c = (x * y + c) % 65536 :: mulL x (l.drop (j + 1)) ((x * y + c) / 65536) := by
  have hk : j < l.length := (List.getElem?_eq_some_iff.1 h).1
  rw [drop_getD hk, getD_of h]; rfl

theorem trimL_len (l : List Int) : (trimL l).length ≤ l.length := by
  unfold trimL
  rw [List.length_reverse]
  exact Nat.le_trans (List.dropWhile_suffix _).length_le (by simp)

theorem times_row {la : List Int} {k n : Nat} {x : Int} (hd : Dig la) (hx : la[k]? = some x) :
    ∃ R, trimL (List.replicate k 0 ++ mulL x (digs n) 0) = digs R ∧ bv (la.take k) * n + R = bv (la.take (k + 1)) * n ∧ (digs R).length ≤ k + (digs n).length + 1 := by
  obtain ⟨_, h2⟩ := times_step (n := n) hd hx
  have hx0 := hd x (List.mem_of_getElem? hx)
  obtain ⟨g1, g2⟩ := mulL_spec x hx0 (digs n) 0 (digs_dig n) (by omega)
  refine ⟨_, trimL_digs h2, ?_, ?_⟩
  · rw [bv_zeros, g2, bv_digs, bv_take_succ hx, Nat.add_mul, Nat.mul_assoc]; simp
  · rw [← trimL_digs h2]
    exact Nat.le_trans (trimL_len _) (by simp [mulL_len]; omega)

end Go.Proofs.Ytjmjnkilgoelbaa

namespace Go.Proofs.Ytjmjnkilgoelbaa
open Go.RowKit

theorem bv_drop {l : List Int} {j : Nat} {x : Int} (h : l[j]? = some x) : bv (l.drop j) = x.toNat + 65536 * bv (l.drop (j + 1)) := by
  have hk : j < l.length := (List.getElem?_eq_some_iff.1 h).1
  rw [drop_getD hk, getD_of h]; rfl

theorem bv_drop_le (l : List Int) (j : Nat) : bv (l.drop j) ≤ bv l := by
  have h := bv_append (l.take j) (l.drop j)
  rw [List.take_append_drop] at h
  have h1 : 1 ≤ 65536 ^ (l.take j).length := Nat.pow_pos (by omega)
  have h2 : 1 * bv (l.drop j) ≤ 65536 ^ (l.take j).length * bv (l.drop j) := Nat.mul_le_mul_right _ h1
  omega

def FitB (w : World) (e : Ending) (w' : World) (z : Int) : Prop := e = .returned (.tuple #[.int .i64 (fitV z), .int .i64 (fitE z)]) ∧ Below w.heap.size w w'

set_option maxRecDepth 100000 in
set_option maxHeartbeats 1000000 in
theorem fits_any (v : Value) (z : Int) (w : World) (h : WholeR w v z) :
    Calls Try.prog 185 #[v] w fun e w' => FitB w e w' z := by
  obtain ⟨neg, vb, rfl, h1, h2, h3⟩ := h
  obtain ⟨l, hl⟩ : ∃ l, digs z.natAbs = l := ⟨_, rfl⟩
  have hd : Dig l := by rw [← hl]; exact digs_dig _
  have hv : bv l = z.natAbs := by rw [← hl]; exact bv_digs _
  have HD := Lib.hid hd; clear hd
  have HV := Lib.hid hv; clear hv
  rw [hl] at h1
  have h1' := h1
  obtain ⟨a, c, rfl, hc1, hc2, hc3, hA⟩ := h1
  have hb0 : Below w.heap.size w (w.alloc (.cells #[.bool neg, .slice a l.length c] 239)) := (Below.refl _ _).alloc (Nat.le_refl _) _
  have hof := of_any 9223372036854775808 (w.alloc (.cells #[.bool neg, .slice a l.length c] 239)) (by omega)
  rw [show ((9223372036854775808 : Nat) : Int) = 9223372036854775808 from rfl] at hof
  have HOF := Lib.hid hof; clear hof
  have HB1 := Lib.hid (h1'.below hb0); clear h1'
  have HA := Lib.hid hA; clear hA
  have HBZ := Lib.hid hb0; clear hb0
  have H2 := Lib.hid h2; clear h2
  have H3 := Lib.hid h3; clear h3
  have HL := Lib.hid hl
  by_cases hbig : 9223372036854775808 < z.natAbs ∨ (z.natAbs = 9223372036854775808 ∧ neg = false)
  · have hno : ¬ Ok64 z := by
      have := H2.out; have := H3.out; unfold Ok64
      rcases hbig with h | ⟨h, rfl⟩
      · omega
      · have := H3.out rfl; omega
    have HNO := Lib.hid hno; clear hno
    rcases hbig with h | ⟨h, rfl⟩
    · have ho : ordI z.natAbs 9223372036854775808 = 1 := by unfold ordI; rw [if_neg (by omega), if_pos h]
      have HO := Lib.hid ho; clear ho h hl
      go_enter Try.func185, Try.ntmps185
      go_wp2_with (first | (go_at_call 206; refine HOF.out.mono ?_; rintro e w1 ⟨vt, rfl, hvt, hft, hbw⟩; have c0_0 := hbw.cell (p := ⟨w.heap.size, 0, none⟩) (by first | omega | (simp <;> omega)); have f0_0 := hbw.frozen (p := ⟨w.heap.size, 0, none⟩) (by first | omega | (simp <;> omega)); have c0_1 := hbw.cell (p := ⟨w.heap.size, 1, none⟩) (by first | omega | (simp <;> omega)); have f0_1 := hbw.frozen (p := ⟨w.heap.size, 1, none⟩) (by first | omega | (simp <;> omega))) | (go_at_call 207; refine (order_any _ _ z.natAbs 9223372036854775808 _ (HL.out ▸ HB1.out.below hbw) hvt).mono ?_; rw [HO.out]; rintro e w2 ⟨rfl, d, rfl⟩))
      go_ret2
      exact ⟨ret2 (fitV_no HNO.out).symm (fitE_no HNO.out).symm, below_drewN (HBZ.out.trans (hbw.mono (by simp))) _⟩
    · have ho : ordI z.natAbs 9223372036854775808 = 0 := by unfold ordI; rw [if_neg (by omega), if_neg (by omega)]
      have HO := Lib.hid ho; clear ho h hl
      go_enter Try.func185, Try.ntmps185
      go_wp2_with (first | (go_at_call 206; refine HOF.out.mono ?_; rintro e w1 ⟨vt, rfl, hvt, hft, hbw⟩; have c0_0 := hbw.cell (p := ⟨w.heap.size, 0, none⟩) (by first | omega | (simp <;> omega)); have f0_0 := hbw.frozen (p := ⟨w.heap.size, 0, none⟩) (by first | omega | (simp <;> omega)); have c0_1 := hbw.cell (p := ⟨w.heap.size, 1, none⟩) (by first | omega | (simp <;> omega)); have f0_1 := hbw.frozen (p := ⟨w.heap.size, 1, none⟩) (by first | omega | (simp <;> omega))) | (go_at_call 207; refine (order_any _ _ z.natAbs 9223372036854775808 _ (HL.out ▸ HB1.out.below hbw) hvt).mono ?_; rw [HO.out]; rintro e w2 ⟨rfl, d, rfl⟩))
      go_ret2
      exact ⟨ret2 (fitV_no HNO.out).symm (fitE_no HNO.out).symm, below_drewN (HBZ.out.trans (hbw.mono (by simp))) _⟩
  · have hok : Ok64 z := by
      have := H2.out; have := H3.out; unfold Ok64
      cases neg with
      | false => have := H3.out rfl; simp at hbig; omega
      | true => have := H2.out rfl; simp at hbig; omega
    have hbn : bv l ≤ 9223372036854775808 := by rw [HV.out]; omega
    have HOK := Lib.hid hok; clear hok
    have ho : ∃ r, ordI z.natAbs 9223372036854775808 = r ∧ (r = -1 ∨ (r = 0 ∧ neg = true)) := by
      refine ⟨_, rfl, ?_⟩
      unfold ordI
      by_cases h : z.natAbs < 9223372036854775808
      · left; rw [if_pos h]
      · right; refine ⟨by rw [if_neg h, if_neg (by omega)], ?_⟩
        cases neg with
        | true => rfl
        | false => simp at hbig; omega
    clear hbig hl
    have HBN := Lib.hid hbn; clear hbn
    obtain ⟨r, ho, hr⟩ := ho
    have HO := Lib.hid ho; clear ho
    have hcases : (neg = false ∧ r = -1) ∨ (neg = true ∧ r = -1) ∨ (neg = true ∧ r = 0) := by
      cases neg <;> simp_all
    clear hr
    have hbn1 : r = -1 → bv l ≤ 9223372036854775807 := fun h => by
      have := HO.out; rw [h] at this; unfold ordI at this; rw [HV.out]
      by_cases h1 : z.natAbs < 9223372036854775808
      · omega
      · rw [if_neg h1] at this; split at this <;> omega
    rcases hcases with ⟨rfl, rfl⟩ | ⟨rfl, rfl⟩ | ⟨rfl, rfl⟩
    all_goals have HBN1 := Lib.hid hbn1
    all_goals clear hbn1
    · go_enter Try.func185, Try.ntmps185
      go_wp2_with (first | (go_at_call 206; refine HOF.out.mono ?_; rintro e w1 ⟨vt, rfl, hvt, hft, hbw⟩; have c0_0 := hbw.cell (p := ⟨w.heap.size, 0, none⟩) (by first | omega | (simp <;> omega)); have f0_0 := hbw.frozen (p := ⟨w.heap.size, 0, none⟩) (by first | omega | (simp <;> omega)); have c0_1 := hbw.cell (p := ⟨w.heap.size, 1, none⟩) (by first | omega | (simp <;> omega)); have f0_1 := hbw.frozen (p := ⟨w.heap.size, 1, none⟩) (by first | omega | (simp <;> omega))) | (go_at_call 207; refine (order_any _ _ z.natAbs 9223372036854775808 _ (HL.out ▸ HB1.out.below hbw) hvt).mono ?_; rw [HO.out]; rintro e w2 ⟨rfl, d, rfl⟩))
      go_loopw [6, 7] (fun m i wr => ∃ (k p : Nat), k ≤ l.length ∧ i = .int .i64 ((k : Int) - 1) ∧ m = .int .i64 (p : Int) ∧ bv (l.drop k) = p ∧ p ≤ 9223372036854775807 ∧ wr = w1.drewN d) (fun _ i _ => (intOf i + 1).toNat)
      case atStart => exact ⟨l.length, 0, Nat.le_refl _, rfl, rfl, by rw [List.drop_of_length_le (Nat.le_refl _)]; rfl, by omega, rfl⟩
      case round =>
        obtain ⟨k, p, hk, rfl, rfl, hp, hpb, rfl⟩ := hrel
        have HP := Lib.hid hp; clear hp
        by_cases h0 : 0 < k
        · obtain ⟨j, hj⟩ : ∃ j, k = j + 1 := ⟨k - 1, by omega⟩
          subst hj
          have e1 : ((j + 1 : Nat) : Int) - 1 = j := by omega
          rw [e1]
          clear e1
          have hjl : j < l.length := by omega
          obtain ⟨x, hx⟩ := getElem?_ex hjl
          have hxb := HD.out x (List.mem_of_getElem? hx)
          have hst := bv_drop hx
          rw [HP.out] at hst
          have hle := bv_drop_le l j
          have hle2 := Nat.le_trans hle (HBN1.out (by first | rfl | trivial))
          obtain ⟨b1, o1, rfl, hb1, hc1'⟩ := HA.out j x hx
          have cx := (((Below.refl w.heap.size w).alloc (Nat.le_refl _) _).trans (hbw.mono (by simp)) |>.cell (p := ⟨b1, o1 + j, none⟩) hb1).trans hc1'
          clear hle hc1'
          obtain ⟨p', hp'⟩ : ∃ p', bv (l.drop j) = p' := ⟨_, rfl⟩
          rw [hp'] at hst hle2
          have HX := Lib.hid hx; clear hx
          have HP' := Lib.hid hp'; clear hp'
          have b1 : 65536 * (p : Int) + x ≤ 9223372036854775807 := by omega
          have HST := Lib.hid hst; clear hst
          go_wp2
          go_roundw
          case rel => exact ⟨j, p', by omega, rfl, by have := HST.out; go_num, HP'.out, hle2, by first | rfl | trivial⟩
          case measure => simp [intOf] <;> omega
        · obtain rfl : k = 0 := by omega
          have hz : z = p := by
            have := HP.out; have := H3.out (by simp); have h5 := HV.out; have h6 := HP.out; simp at h6; omega
          have HZ := Lib.hid hz; clear hz
          go_wp2
          go_ret2
          refine ⟨ret2 (by rw [fitV_yes HOK.out]; exact HZ.out.symm) (fitE_yes HOK.out).symm, below_drewN (HBZ.out.trans (hbw.mono (by simp))) _⟩
    · go_enter Try.func185, Try.ntmps185
      go_wp2_with (first | (go_at_call 206; refine HOF.out.mono ?_; rintro e w1 ⟨vt, rfl, hvt, hft, hbw⟩; have c0_0 := hbw.cell (p := ⟨w.heap.size, 0, none⟩) (by first | omega | (simp <;> omega)); have f0_0 := hbw.frozen (p := ⟨w.heap.size, 0, none⟩) (by first | omega | (simp <;> omega)); have c0_1 := hbw.cell (p := ⟨w.heap.size, 1, none⟩) (by first | omega | (simp <;> omega)); have f0_1 := hbw.frozen (p := ⟨w.heap.size, 1, none⟩) (by first | omega | (simp <;> omega))) | (go_at_call 207; refine (order_any _ _ z.natAbs 9223372036854775808 _ (HL.out ▸ HB1.out.below hbw) hvt).mono ?_; rw [HO.out]; rintro e w2 ⟨rfl, d, rfl⟩))
      go_loopw [6, 7] (fun m i wr => ∃ (k p : Nat), k ≤ l.length ∧ i = .int .i64 ((k : Int) - 1) ∧ m = .int .i64 (-(p : Int)) ∧ bv (l.drop k) = p ∧ p ≤ 9223372036854775808 ∧ wr = w1.drewN d) (fun _ i _ => (intOf i + 1).toNat)
      case atStart => exact ⟨l.length, 0, Nat.le_refl _, rfl, rfl, by rw [List.drop_of_length_le (Nat.le_refl _)]; rfl, by omega, rfl⟩
      case round =>
        obtain ⟨k, p, hk, rfl, rfl, hp, hpb, rfl⟩ := hrel
        have HP := Lib.hid hp; clear hp
        by_cases h0 : 0 < k
        · obtain ⟨j, hj⟩ : ∃ j, k = j + 1 := ⟨k - 1, by omega⟩
          subst hj
          have e1 : ((j + 1 : Nat) : Int) - 1 = j := by omega
          rw [e1]
          clear e1
          have hjl : j < l.length := by omega
          obtain ⟨x, hx⟩ := getElem?_ex hjl
          have hxb := HD.out x (List.mem_of_getElem? hx)
          have hst := bv_drop hx
          rw [HP.out] at hst
          have hle := bv_drop_le l j
          have hle2 := Nat.le_trans hle HBN.out
          obtain ⟨b1, o1, rfl, hb1, hc1'⟩ := HA.out j x hx
          have cx := (((Below.refl w.heap.size w).alloc (Nat.le_refl _) _).trans (hbw.mono (by simp)) |>.cell (p := ⟨b1, o1 + j, none⟩) hb1).trans hc1'
          clear hle hc1'
          obtain ⟨p', hp'⟩ : ∃ p', bv (l.drop j) = p' := ⟨_, rfl⟩
          rw [hp'] at hst hle2
          have HX := Lib.hid hx; clear hx
          have HP' := Lib.hid hp'; clear hp'
          have b1 : 65536 * (p : Int) + x ≤ 9223372036854775808 := by omega
          have HST := Lib.hid hst; clear hst
          go_wp2
          go_roundw
          case rel => exact ⟨j, p', by omega, rfl, by have := HST.out; go_num, HP'.out, hle2, by first | rfl | trivial⟩
          case measure => simp [intOf] <;> omega
        · obtain rfl : k = 0 := by omega
          have hz : z = -(p : Int) := by
            have := HP.out; have := H2.out (by simp); have h5 := HV.out; have h6 := HP.out; simp at h6; omega
          have HZ := Lib.hid hz; clear hz
          go_wp2
          go_ret2
          refine ⟨ret2 (by rw [fitV_yes HOK.out]; exact HZ.out.symm) (fitE_yes HOK.out).symm, below_drewN (HBZ.out.trans (hbw.mono (by simp))) _⟩
    · go_enter Try.func185, Try.ntmps185
      go_wp2_with (first | (go_at_call 206; refine HOF.out.mono ?_; rintro e w1 ⟨vt, rfl, hvt, hft, hbw⟩; have c0_0 := hbw.cell (p := ⟨w.heap.size, 0, none⟩) (by first | omega | (simp <;> omega)); have f0_0 := hbw.frozen (p := ⟨w.heap.size, 0, none⟩) (by first | omega | (simp <;> omega)); have c0_1 := hbw.cell (p := ⟨w.heap.size, 1, none⟩) (by first | omega | (simp <;> omega)); have f0_1 := hbw.frozen (p := ⟨w.heap.size, 1, none⟩) (by first | omega | (simp <;> omega))) | (go_at_call 207; refine (order_any _ _ z.natAbs 9223372036854775808 _ (HL.out ▸ HB1.out.below hbw) hvt).mono ?_; rw [HO.out]; rintro e w2 ⟨rfl, d, rfl⟩))
      go_loopw [6, 7] (fun m i wr => ∃ (k p : Nat), k ≤ l.length ∧ i = .int .i64 ((k : Int) - 1) ∧ m = .int .i64 (-(p : Int)) ∧ bv (l.drop k) = p ∧ p ≤ 9223372036854775808 ∧ wr = w1.drewN d) (fun _ i _ => (intOf i + 1).toNat)
      case atStart => exact ⟨l.length, 0, Nat.le_refl _, rfl, rfl, by rw [List.drop_of_length_le (Nat.le_refl _)]; rfl, by omega, rfl⟩
      case round =>
        obtain ⟨k, p, hk, rfl, rfl, hp, hpb, rfl⟩ := hrel
        have HP := Lib.hid hp; clear hp
        by_cases h0 : 0 < k
        · obtain ⟨j, hj⟩ : ∃ j, k = j + 1 := ⟨k - 1, by omega⟩
          subst hj
          have e1 : ((j + 1 : Nat) : Int) - 1 = j := by omega
          rw [e1]
          clear e1
          have hjl : j < l.length := by omega
          obtain ⟨x, hx⟩ := getElem?_ex hjl
          have hxb := HD.out x (List.mem_of_getElem? hx)
          have hst := bv_drop hx
          rw [HP.out] at hst
          have hle := bv_drop_le l j
          have hle2 := Nat.le_trans hle HBN.out
          obtain ⟨b1, o1, rfl, hb1, hc1'⟩ := HA.out j x hx
          have cx := (((Below.refl w.heap.size w).alloc (Nat.le_refl _) _).trans (hbw.mono (by simp)) |>.cell (p := ⟨b1, o1 + j, none⟩) hb1).trans hc1'
          clear hle hc1'
          obtain ⟨p', hp'⟩ : ∃ p', bv (l.drop j) = p' := ⟨_, rfl⟩
          rw [hp'] at hst hle2
          have HX := Lib.hid hx; clear hx
          have HP' := Lib.hid hp'; clear hp'
          have b1 : 65536 * (p : Int) + x ≤ 9223372036854775808 := by omega
          have HST := Lib.hid hst; clear hst
          go_wp2
          go_roundw
          case rel => exact ⟨j, p', by omega, rfl, by have := HST.out; go_num, HP'.out, hle2, by first | rfl | trivial⟩
          case measure => simp [intOf] <;> omega
        · obtain rfl : k = 0 := by omega
          have hz : z = -(p : Int) := by
            have := HP.out; have := H2.out (by simp); have h5 := HV.out; have h6 := HP.out; simp at h6; omega
          have HZ := Lib.hid hz; clear hz
          go_wp2
          go_ret2
          refine ⟨ret2 (by rw [fitV_yes HOK.out]; exact HZ.out.symm) (fitE_yes HOK.out).symm, below_drewN (HBZ.out.trans (hbw.mono (by simp))) _⟩
end Go.Proofs.Ytjmjnkilgoelbaa

namespace Go.Proofs.Ytjmjnkilgoelbaa
open Go.RowKit

attribute [local go_sem ↓] Go.wp_at_zero Go.wp_at_succ

theorem Sm.ok {z : Int} (h : Ok64 z) : Sm z.natAbs := Sm.of (k := 4) (by unfold Ok64 at h; omega) (by omega)

set_option maxRecDepth 100000 in
set_option maxHeartbeats 400000 in
theorem turn_any (v : Value) (z : Int) (w : World) (h : WholeR w v z) :
    Calls Try.prog 188 #[v] w fun e w' => ∃ v', e = .returned v' ∧ WholeR w' v' (-z) ∧ Below w.heap.size w w' := by
  obtain ⟨neg, vb, rfl, h1, h2, h3⟩ := h
  have H1 := Lib.hid h1
  obtain ⟨a, c, rfl, _, _, _, _⟩ := h1
  have H2 := Lib.hid h2; clear h2
  have H3 := Lib.hid h3; clear h3
  go_enter Try.func188, Try.ntmps188
  go_wp2
  refine bodyPost_ret (v := .agg #[.bool (!neg), .slice a (digs z.natAbs).length c]) (by simp [results, Try.results188, go_sem, *]) rfl ⟨_, rfl, ⟨_, _, rfl, ?_, fun h => ?_, fun h => ?_⟩, ?_⟩
  · rw [Int.natAbs_neg]
    exact H1.out.below (by (repeat (first | with_reducible exact Below.refl _ _ | with_reducible refine Bs ?_ | with_reducible refine Ba ?_ | with_reducible refine Bd ?_ | with_reducible refine Bn ?_)))
  · have := H3.out (by simpa using h); omega
  · have := H2.out (by simpa using h); omega
  · (repeat (first | with_reducible exact Below.refl _ _ | with_reducible refine Bs ?_ | with_reducible refine Ba ?_ | with_reducible refine Bd ?_ | with_reducible refine Bn ?_))

end Go.Proofs.Ytjmjnkilgoelbaa

namespace Go.Proofs.Ytjmjnkilgoelbaa
open Go.RowKit

attribute [local go_sem ↓] Go.wp_at_zero Go.wp_at_succ

set_option maxHeartbeats 400000 in
theorem rsub_any (a b : Int) (w : World) (ha : Ok64 a) (hb : Ok64 b) :
    Calls Try.prog 153 #[.int .i64 a, .int .i64 b] w fun e w' => FitB w e w' (a - b) := by
  have SA := Lib.hid (Sm.ok ha)
  have SB : Hid (Sm (-b).natAbs) := by rw [Int.natAbs_neg]; exact Sm.ok hb
  go_enter Try.func153, Try.ntmps153
  go_wp2_with fail
  refine (int_any a _ ha.1 ha.2).mono ?_
  rintro e w1 ⟨v1, rfl, hv1, _, hb1⟩
  go_wp2_with fail
  refine (int_any b _ hb.1 hb.2).mono ?_
  rintro e w2 ⟨v2, rfl, hv2, _, hb2⟩
  go_wp2_with fail
  refine (turn_any v2 b _ hv2).mono ?_
  rintro e w5 ⟨v5, rfl, hv5, hb5⟩
  go_wp2_with fail
  refine (both_any v1 v5 a (-b) _ ((hv1.below hb2).below hb5) hv5 SA.out SB.out).mono ?_
  rintro e w3 ⟨v3, rfl, hv3, _, hb3⟩
  rw [← Int.sub_eq_add_neg] at hv3
  go_wp2_with fail
  refine (fits_any v3 _ _ hv3).mono ?_
  rintro e w4 ⟨rfl, hb4⟩
  go_wp2
  go_ret2
  exact ⟨rfl, hb1.trans ((hb2.trans ((hb5.trans ((hb3.trans (hb4.mono hb3.size)).mono hb5.size)).mono hb2.size)).mono hb1.size)⟩

end Go.Proofs.Ytjmjnkilgoelbaa

namespace Go.Proofs.Ytjmjnkilgoelbaa
open Go.RowKit

theorem gcdZ_step (x y : Int) : gcdZ x y = gcdZ y (x.tmod y) := by
  unfold gcdZ
  rw [Int.natAbs_tmod, gcd_step]

set_option maxHeartbeats 800000 in
theorem rgcd_any (a b : Int) (w : World) (ha : Ok64 a) (hb : Ok64 b) :
    Calls Try.prog 87 #[.int .i64 a, .int .i64 b] w fun e w' => e = .returned (.tuple #[.int .i64 (fitV (gcdZ a b)), .int .i64 (fitE (gcdZ a b))]) ∧ Below w.heap.size w w' := by
  go_enter Try.func87, Try.ntmps87
  go_wp2
  go_loopw [6, 7] (fun x y wr => ∃ (p q : Int), x = .int .i64 p ∧ y = .int .i64 q ∧ Ok64 p ∧ Ok64 q ∧ gcdZ p q = gcdZ a b ∧ ∃ n, wr = w.drewN n) (fun _ y _ => (intOf y).natAbs)
  case atStart => exact ⟨_, _, rfl, rfl, ha, hb, rfl, 0, rfl⟩
  case round =>
    obtain ⟨p, q, rfl, rfl, hp, hq, hg, n, rfl⟩ := hrel
    have HG := Lib.hid hg; clear hg
    have HP := Lib.hid hp
    have HQ := Lib.hid hq
    unfold Ok64 at hp hq
    by_cases h0 : q = 0
    · subst h0
      have hz : gcdZ a b = p.natAbs := by rw [← HG.out]; simp [gcdZ]
      have HZ := Lib.hid hz; clear hz
      by_cases hn : p < 0
      · have hs : ∀ W : World, Calls Try.prog 153 #[.int .i64 0, .int .i64 p] W fun e w' => FitB W e w' (gcdZ a b) := fun W => by
          have := rsub_any 0 p W (by unfold Ok64; omega) HP.out
          rwa [show 0 - p = gcdZ a b by rw [HZ.out]; omega] at this
        have HS := Lib.hid hs; clear hs
        go_wp2_with (go_at_call 153; refine (HS.out _).mono ?_; rintro e w1 ⟨rfl, hbw⟩)
        go_ret2
        exact ⟨rfl, (below_drewN (Below.refl _ _) n).trans hbw⟩
      · have hok : Ok64 (gcdZ a b) := by rw [HZ.out]; unfold Ok64; omega
        have HOK := Lib.hid hok; clear hok
        go_wp2
        go_ret2
        exact ⟨ret2 (by rw [fitV_yes HOK.out, HZ.out]; omega) (fitE_yes HOK.out).symm, by (repeat (first | with_reducible exact Below.refl _ _ | with_reducible refine Bs ?_ | with_reducible refine Ba ?_ | with_reducible refine Bd ?_ | with_reducible refine Bn ?_))⟩
    · have hnb : (q != 0) = true := by simp [h0]
      by_cases h1 : q = -1
      · subst h1
        have hz : gcdZ a b = 1 := by rw [← HG.out]; simp [gcdZ]
        have hok : Ok64 (gcdZ a b) := by rw [hz]; unfold Ok64; omega
        have HZ := Lib.hid hz; clear hz
        have HOK := Lib.hid hok; clear hok
        go_wp2
        go_ret2
        exact ⟨ret2 (by rw [fitV_yes HOK.out, HZ.out]) (fitE_yes HOK.out).symm, by (repeat (first | with_reducible exact Below.refl _ _ | with_reducible refine Bs ?_ | with_reducible refine Ba ?_ | with_reducible refine Bd ?_ | with_reducible refine Bn ?_))⟩
      · have hqb : (q == -1) = false := by simp [h1]
        have k2 := tmod_bd (a := p) h0
        have K2 := Lib.hid k2
        have hok : Ok64 (p.tmod q) := by unfold Ok64; omega
        have HOK := Lib.hid hok; clear hok
        go_wp2
        go_quiet (fail)
        go_wp2
        go_roundw
        case rel => exact ⟨q, p.tmod q, rfl, rfl, HQ.out, HOK.out, by rw [← gcdZ_step, HG.out], _, World.drewN_drewN _ _ _⟩
        case measure => have := Nat.mod_lt p.natAbs (show 0 < q.natAbs by omega); simp [intOf, Int.natAbs_tmod]; omega

theorem bitLen_is {m k : Nat} (h : m < 2 ^ k) (h' : k = 0 ∨ 2 ^ (k - 1) ≤ m) (hm : m < 2 ^ 64) : Lib.bitLen m = k := by
  rcases Nat.eq_zero_or_pos m with h0 | h0
  · subst h0
    have : Lib.bitLen 0 = 0 := Lib.bitLenAux_zero 64
    rcases h' with h' | h'
    · omega
    · have := Nat.two_pow_pos (k - 1); omega
  · obtain ⟨h1, h2, h3⟩ := Lib.bitLenAux_bounds 64 m hm (by omega)
    show Lib.bitLenAux 64 m = k
    generalize Lib.bitLenAux 64 m = j at *
    rcases h' with h' | h'
    · subst h'; omega
    · rcases Nat.lt_trichotomy j k with h4 | h4 | h4
      · have := Nat.pow_le_pow_right (show 0 < 2 by omega) (show j ≤ k - 1 by omega); omega
      · exact h4
      · have := Nat.pow_le_pow_right (show 0 < 2 by omega) (show k ≤ j - 1 by omega); omega

set_option maxRecDepth 100000 in
set_option maxHeartbeats 800000 in
theorem rlog_any (n : Int) (w : World) (hn : Ok64 n) :
    Calls Try.prog 197 #[.int .i64 n] w fun e w' => e = .returned (.int .i64 (Lib.bitLen (n.toNat - 1))) ∧ w = w' := by
  have HN := Lib.hid hn
  unfold Ok64 at hn
  go_enter Try.func197, Try.ntmps197
  go_wp2
  go_loop [3, 4] (fun k p => ∃ (j q : Nat), k = .int .i64 j ∧ p = .int .i64 q ∧ q = 2 ^ j ∧ q ≤ 4611686018427387904 ∧ j ≤ 62 ∧ (j = 0 ∨ 2 ^ (j - 1) ≤ n.toNat - 1)) (fun k _ => 63 - (intOf k).toNat)
  case atStart => exact ⟨0, 1, rfl, rfl, rfl, by omega, by omega, .inl rfl⟩
  case round =>
    obtain ⟨j, q, rfl, rfl, hq, hq2, hj, hlow⟩ := hrel
    have HQ := Lib.hid hq; clear hq
    have HLOW := Lib.hid hlow; clear hlow
    by_cases hlt : (q : Int) < n
    · by_cases h62 : j = 62
      · subst h62
        have hq3 : (q : Int) = 4611686018427387904 := by have := HQ.out; omega
        have hneg : wrap64 ((q : Int) * 2) < 0 := by rw [hq3]; unfold wrap64; omega
        have HQ3 := Lib.hid hq3; clear hq3
        go_wp2
        go_ret
        refine ⟨ret_int ?_, rfl⟩
        rw [bitLen_is (k := 63) (m := n.toNat - 1) (by omega) (.inr (by have := HQ3.out; show 2 ^ 62 ≤ _; omega)) (by omega)]
        rfl
      · have hq4 : (q : Int) ≤ 2305843009213693952 := by
          have : 2 ^ j ≤ 2 ^ 61 := Nat.pow_le_pow_right (by omega) (by omega)
          rw [← HQ.out] at this; omega
        go_wp2
        go_round
        case rel => exact ⟨j + 1, q * 2, by go_num, by go_num, by rw [HQ.out, Nat.pow_succ], by omega, by omega, .inr (by rw [Nat.add_sub_cancel, ← HQ.out]; omega)⟩
        case measure => simp [intOf]; omega
    · go_wp2
      go_ret
      refine ⟨ret_int ?_, rfl⟩
      rw [bitLen_is (k := j) (m := n.toNat - 1) (by rw [← HQ.out]; have := Nat.two_pow_pos j; have := HQ.out; omega) HLOW.out (by omega)]
end Go.Proofs.Ytjmjnkilgoelbaa

namespace Go.Proofs.Ytjmjnkilgoelbaa
open Go.RowKit

theorem gcd_small {p q : Int} (hq : 1 ≤ q ∧ q ≤ 16) : 0 ≤ gcdZ p q ∧ gcdZ p q ≤ 16 := by
  unfold gcdZ
  have := Nat.gcd_le_right p.natAbs (n := q.natAbs) (by omega)
  omega

theorem scoreB_fail {p q : Int} (h : ¬ ((1 ≤ q ∧ q ≤ 16) ∧ (0 ≤ p ∧ p ≤ 274877906944))) : scoreB (p, q) = false := by
  unfold scoreB
  exact decide_eq_false (fun hh => h ⟨hh.1, hh.2.1⟩)

theorem scoreB_gcd {p q : Int} (h : (1 ≤ q ∧ q ≤ 16) ∧ (0 ≤ p ∧ p ≤ 274877906944)) : (gcdZ p q == 1) = scoreB (p, q) := by
  unfold scoreB
  by_cases e : gcdZ p q = 1
  · rw [decide_eq_true ⟨h.1, h.2, e⟩, e]; rfl
  · rw [decide_eq_false (fun hh => e hh.2.2)]
    simp [e]

set_option maxRecDepth 100000 in
set_option maxHeartbeats 4000000 in
theorem sis_any (p q : Int) (w : World) : Calls Try.prog 79 #[.agg #[.int .i64 p, .int .i64 q]] w fun e w' => e = .returned (.bool (scoreB (p, q))) ∧ Below w.heap.size w w' := by
  by_cases h0 : q < 1
  · have HB := Lib.hid (scoreB_fail (p := p) (q := q) (by omega))
    go_enter Try.func79, Try.ntmps79
    go_wp2_with fail
    go_ret
    exact ⟨ret_bool HB.out.symm, by (repeat (first | with_reducible exact Below.refl _ _ | with_reducible refine Bs ?_ | with_reducible refine Ba ?_ | with_reducible refine Bd ?_ | with_reducible refine Bn ?_))⟩
  · have g0 : 1 ≤ q := by omega
    by_cases h1 : 16 < q
    · have HB := Lib.hid (scoreB_fail (p := p) (q := q) (by omega))
      go_enter Try.func79, Try.ntmps79
      go_wp2_with fail
      go_ret
      exact ⟨ret_bool HB.out.symm, by (repeat (first | with_reducible exact Below.refl _ _ | with_reducible refine Bs ?_ | with_reducible refine Ba ?_ | with_reducible refine Bd ?_ | with_reducible refine Bn ?_))⟩
    · have g1 : q ≤ 16 := by omega
      by_cases h2 : p < 0
      · have HB := Lib.hid (scoreB_fail (p := p) (q := q) (by omega))
        go_enter Try.func79, Try.ntmps79
        go_wp2_with fail
        go_ret
        exact ⟨ret_bool HB.out.symm, by (repeat (first | with_reducible exact Below.refl _ _ | with_reducible refine Bs ?_ | with_reducible refine Ba ?_ | with_reducible refine Bd ?_ | with_reducible refine Bn ?_))⟩
      · have g2 : 0 ≤ p := by omega
        by_cases h3 : 274877906944 < p
        · have HB := Lib.hid (scoreB_fail (p := p) (q := q) (by omega))
          go_enter Try.func79, Try.ntmps79
          go_wp2_with fail
          go_ret
          exact ⟨ret_bool HB.out.symm, by (repeat (first | with_reducible exact Below.refl _ _ | with_reducible refine Bs ?_ | with_reducible refine Ba ?_ | with_reducible refine Bd ?_ | with_reducible refine Bn ?_))⟩
        · have g3 : p ≤ 274877906944 := by omega
          have HB := Lib.hid (scoreB_gcd (p := p) (q := q) (by omega))
          have hg := gcd_small (p := p) (q := q) (by omega)
          have HG := Lib.hid (fun W => gcd_any p q W (by unfold Ok64; omega) (by unfold Ok64; omega))
          rw [fitV_yes (by unfold Ok64; omega), fitE_yes (by unfold Ok64; omega)] at HG
          clear hg
          generalize gcdZ p q = G at *
          go_enter Try.func79, Try.ntmps79
          go_wp2_with fail
          (with_reducible refine (HG.out _).mono ?_)
          rintro e w1 ⟨rfl, d1, rfl⟩
          go_wp2_with fail
          go_ret
          exact ⟨ret_bool HB.out, by (repeat (first | with_reducible exact Below.refl _ _ | with_reducible refine Bs ?_ | with_reducible refine Ba ?_ | with_reducible refine Bd ?_ | with_reducible refine Bn ?_))⟩

set_option maxRecDepth 100000 in
set_option maxHeartbeats 4000000 in
theorem ris13_any (p q : Int) (w : World) : Calls Try.prog 24 #[.agg #[.int .i64 p, .int .i64 q]] w fun e w' => e = .returned (.bool (scoreB (p, q))) ∧ Below w.heap.size w w' := by
  by_cases h0 : q < 1
  · have HB := Lib.hid (scoreB_fail (p := p) (q := q) (by omega))
    go_enter Try.func24, Try.ntmps24
    go_wp2_with fail
    go_ret
    exact ⟨ret_bool HB.out.symm, by (repeat (first | with_reducible exact Below.refl _ _ | with_reducible refine Bs ?_ | with_reducible refine Ba ?_ | with_reducible refine Bd ?_ | with_reducible refine Bn ?_))⟩
  · have g0 : 1 ≤ q := by omega
    by_cases h1 : 16 < q
    · have HB := Lib.hid (scoreB_fail (p := p) (q := q) (by omega))
      go_enter Try.func24, Try.ntmps24
      go_wp2_with fail
      go_ret
      exact ⟨ret_bool HB.out.symm, by (repeat (first | with_reducible exact Below.refl _ _ | with_reducible refine Bs ?_ | with_reducible refine Ba ?_ | with_reducible refine Bd ?_ | with_reducible refine Bn ?_))⟩
    · have g1 : q ≤ 16 := by omega
      by_cases h2 : p < 0
      · have HB := Lib.hid (scoreB_fail (p := p) (q := q) (by omega))
        go_enter Try.func24, Try.ntmps24
        go_wp2_with fail
        go_ret
        exact ⟨ret_bool HB.out.symm, by (repeat (first | with_reducible exact Below.refl _ _ | with_reducible refine Bs ?_ | with_reducible refine Ba ?_ | with_reducible refine Bd ?_ | with_reducible refine Bn ?_))⟩
      · have g2 : 0 ≤ p := by omega
        by_cases h3 : 274877906944 < p
        · have HB := Lib.hid (scoreB_fail (p := p) (q := q) (by omega))
          go_enter Try.func24, Try.ntmps24
          go_wp2_with fail
          go_ret
          exact ⟨ret_bool HB.out.symm, by (repeat (first | with_reducible exact Below.refl _ _ | with_reducible refine Bs ?_ | with_reducible refine Ba ?_ | with_reducible refine Bd ?_ | with_reducible refine Bn ?_))⟩
        · have g3 : p ≤ 274877906944 := by omega
          have HB := Lib.hid (scoreB_gcd (p := p) (q := q) (by omega))
          have hg := gcd_small (p := p) (q := q) (by omega)
          have HG := Lib.hid (fun W => rgcd_any p q W (by unfold Ok64; omega) (by unfold Ok64; omega))
          rw [fitV_yes (by unfold Ok64; omega), fitE_yes (by unfold Ok64; omega)] at HG
          clear hg
          generalize gcdZ p q = G at *
          go_enter Try.func24, Try.ntmps24
          go_wp2_with fail
          (with_reducible refine (HG.out _).mono ?_); rintro e w1 ⟨rfl, b1⟩; have s1 : w.heap.size ≤ w1.heap.size := sz b1; have B1 := Lib.hid (Bc (B := w.heap.size) (a := w) (by (repeat (first | with_reducible exact Below.refl _ _ | with_reducible refine Bs ?_ | with_reducible refine Ba ?_ | with_reducible refine Bd ?_ | with_reducible refine Bn ?_))) b1); clear b1
          go_wp2_with fail
          go_ret
          exact ⟨ret_bool HB.out, by (repeat (first | with_reducible exact Below.refl _ _ | with_reducible refine Bs ?_ | with_reducible refine Ba ?_ | with_reducible refine Bd ?_ | with_reducible refine Bn ?_ | with_reducible refine Bt B1.out ?_))⟩

set_option maxRecDepth 100000 in
set_option maxHeartbeats 4000000 in
theorem odder_any (p q r s : Int) (w : World) (hp : Ok64 p) (hq : Ok64 q) (hr : Ok64 r) (hs : Ok64 s) :
    Calls Try.prog 167 #[.agg #[.int .i64 p, .int .i64 q], .agg #[.int .i64 r, .int .i64 s]] w fun e w' => e = .returned (.int .i64 (oddI (p, q) (r, s))) ∧ Below w.heap.size w w' := by
  have HP := Lib.hid (fun W => wProds_any r q p s W hr hq hp hs)
  rw [show prodsI r q p s = oddI (p, q) (r, s) from prods_odd (p, q) (r, s)] at HP
  generalize oddI (p, q) (r, s) = R at *
  clear hp hq hr hs
  go_enter Try.func167, Try.ntmps167
  go_wp2_with fail
  (with_reducible refine (HP.out _).mono ?_); rintro e w1 ⟨rfl, b1⟩; have s1 : w.heap.size ≤ w1.heap.size := sz b1; have B1 := Lib.hid (Bc (B := w.heap.size) (a := w) (by (repeat (first | with_reducible exact Below.refl _ _ | with_reducible refine Bs ?_ | with_reducible refine Ba ?_ | with_reducible refine Bd ?_ | with_reducible refine Bn ?_))) b1); clear b1
  go_wp2_with fail
  go_ret
  exact ⟨rfl, by (repeat (first | with_reducible exact Below.refl _ _ | with_reducible refine Bs ?_ | with_reducible refine Ba ?_ | with_reducible refine Bd ?_ | with_reducible refine Bn ?_ | with_reducible refine Bt B1.out ?_))⟩

theorem odd_case (p q r s : Int) : (p * s < r * q ∧ oddI (p, q) (r, s) = 1) ∨ (¬ p * s < r * q ∧ r * q < p * s ∧ oddI (p, q) (r, s) = -1) ∨ (¬ p * s < r * q ∧ ¬ r * q < p * s ∧ oddI (p, q) (r, s) = 0) := by
  unfold oddI
  dsimp only
  split
  · exact .inl ⟨by assumption, rfl⟩
  · split
    · exact .inr (.inl ⟨by assumption, by assumption, rfl⟩)
    · exact .inr (.inr ⟨by assumption, by assumption, rfl⟩)

theorem mul_small {p s : Int} (h1 : 0 ≤ p ∧ p ≤ 274877906944) (h2 : 0 ≤ s ∧ s ≤ 16) : 0 ≤ p * s ∧ p * s ≤ 4398046511104 := by
  refine ⟨Int.mul_nonneg h1.1 h2.1, ?_⟩
  have := Int.mul_le_mul h1.2 h2.2 h2.1 (by omega)
  omega

theorem wrap_ok {z : Int} (h : 0 ≤ z ∧ z ≤ 4398046511104) : wrap64 z = z := by unfold wrap64; omega

set_option maxRecDepth 100000 in
set_option maxHeartbeats 4000000 in
theorem rodder_any (p q r s : Int) (w : World) (hp : 0 ≤ p ∧ p ≤ 274877906944) (hq : 0 ≤ q ∧ q ≤ 16) (hr : 0 ≤ r ∧ r ≤ 274877906944) (hs : 0 ≤ s ∧ s ≤ 16) :
    Calls Try.prog 26 #[.agg #[.int .i64 p, .int .i64 q], .agg #[.int .i64 r, .int .i64 s]] w fun e w' => e = .returned (.int .i64 (oddI (p, q) (r, s))) ∧ Below w.heap.size w w' := by
  have h1 := mul_small hp hs
  have h2 := mul_small hr hq
  clear hp hq hr hs
  rcases odd_case p q r s with ⟨g, e⟩ | ⟨g, g', e⟩ | ⟨g, g', e⟩ <;>
  · rw [e]
    clear e
    have e1 := wrap_ok h1
    have e2 := wrap_ok h2
    have H1 := Lib.hid h1
    have H2 := Lib.hid h2
    clear h1 h2
    go_enter Try.func26, Try.ntmps26
    go_wp2_with fail
    go_ret
    exact ⟨rfl, by (repeat (first | with_reducible exact Below.refl _ _ | with_reducible refine Bs ?_ | with_reducible refine Ba ?_ | with_reducible refine Bd ?_ | with_reducible refine Bn ?_))⟩

set_option maxRecDepth 100000 in
set_option maxHeartbeats 4000000 in
theorem scmp_any (p q r s : Int) (w : World) :
    Calls Try.prog 148 #[.agg #[.int .i64 p, .int .i64 q], .agg #[.int .i64 r, .int .i64 s]] w fun e w' => e = .returned (.tuple #[.int .i64 (if scoreB (p, q) && scoreB (r, s) then oddI (p, q) (r, s) else 0), .int .i64 (if scoreB (p, q) && scoreB (r, s) then 0 else 130)]) ∧ Below w.heap.size w w' := by
  have H1 := Lib.hid (fun W => sis_any p q W)
  have H2 := Lib.hid (fun W => sis_any r s W)
  have H3 := Lib.hid (fun (h1 : scoreB (p, q) = true) (h2 : scoreB (r, s) = true) W => odder_any p q r s W (by have := scoreB_is.1 h1; unfold Ok64; omega) (by have := scoreB_is.1 h1; unfold Ok64; omega) (by have := scoreB_is.1 h2; unfold Ok64; omega) (by have := scoreB_is.1 h2; unfold Ok64; omega))
  generalize oddI (p, q) (r, s) = R at *
  cases hb : scoreB (p, q) with
  | false =>
    rw [hb] at H1
    clear H3 H2 hb
    simp only [Bool.false_and, Bool.false_eq_true, if_false]
    go_enter Try.func148, Try.ntmps148
    go_wp2_with fail
    (with_reducible refine (H1.out _).mono ?_); rintro e w1 ⟨rfl, b1⟩; have s1 : w.heap.size + 1 + 1 ≤ w1.heap.size := sz b1; have B1 := Lib.hid (Bc (B := w.heap.size) (a := w) (by (repeat (first | with_reducible exact Below.refl _ _ | with_reducible refine Bs ?_ | with_reducible refine Ba ?_ | with_reducible refine Bd ?_ | with_reducible refine Bn ?_))) b1); have c1_0 : w1.cell? ⟨w.heap.size, 0, none⟩ = some (.int .i64 p) := kc b1 (by go_simp) (by first | omega | (simp; done) | (simp; omega)); obtain ⟨l1_0, n1_0, m1_0⟩ := lnm (show w.heap.size < w1.heap.size by omega); clear b1
    go_wp2_with fail
    go_ret2
    exact ⟨rfl, by (repeat (first | with_reducible exact Below.refl _ _ | with_reducible refine Bs ?_ | with_reducible refine Ba ?_ | with_reducible refine Bd ?_ | with_reducible refine Bn ?_ | with_reducible refine Bt B1.out ?_))⟩
  | true =>
    cases hb2 : scoreB (r, s) with
    | false =>
      rw [hb] at H1
      rw [hb2] at H2
      clear H3 hb hb2
      simp only [Bool.and_false, Bool.false_eq_true, if_false]
      go_enter Try.func148, Try.ntmps148
      go_wp2_with fail
      (with_reducible refine (H1.out _).mono ?_); rintro e w1 ⟨rfl, b1⟩; have s1 : w.heap.size + 1 + 1 ≤ w1.heap.size := sz b1; have B1 := Lib.hid (Bc (B := w.heap.size) (a := w) (by (repeat (first | with_reducible exact Below.refl _ _ | with_reducible refine Bs ?_ | with_reducible refine Ba ?_ | with_reducible refine Bd ?_ | with_reducible refine Bn ?_))) b1); obtain ⟨c1_0, c1_1⟩ := k2 (w.heap.size + 1) (.int .i64 r) (.int .i64 s) b1 (by and_intros <;> go_simp); obtain ⟨l1_0, n1_0, m1_0⟩ := lnm (show w.heap.size + 1 < w1.heap.size by omega); clear b1
      go_wp2_with fail
      (with_reducible refine (H2.out _).mono ?_); rintro e w2 ⟨rfl, b2⟩; have s2 : w1.heap.size ≤ w2.heap.size := sz b2; have B2 := Lib.hid (Bc (B := w.heap.size) (a := w) (by (repeat (first | with_reducible exact Below.refl _ _ | with_reducible refine Bs ?_ | with_reducible refine Ba ?_ | with_reducible refine Bd ?_ | with_reducible refine Bn ?_ | with_reducible refine Bt B1.out ?_))) b2); clear b2
      go_wp2_with fail
      go_ret2
      exact ⟨rfl, by (repeat (first | with_reducible exact Below.refl _ _ | with_reducible refine Bs ?_ | with_reducible refine Ba ?_ | with_reducible refine Bd ?_ | with_reducible refine Bn ?_ | with_reducible refine Bt B2.out ?_))⟩
    | true =>
      have H4 := Lib.hid (H3.out hb hb2)
      rw [hb] at H1
      rw [hb2] at H2
      clear H3 hb hb2
      simp only [Bool.and_true, if_true]
      go_enter Try.func148, Try.ntmps148
      go_wp2_with fail
      (with_reducible refine (H1.out _).mono ?_); rintro e w1 ⟨rfl, b1⟩; have s1 : w.heap.size + 1 + 1 ≤ w1.heap.size := sz b1; have B1 := Lib.hid (Bc (B := w.heap.size) (a := w) (by (repeat (first | with_reducible exact Below.refl _ _ | with_reducible refine Bs ?_ | with_reducible refine Ba ?_ | with_reducible refine Bd ?_ | with_reducible refine Bn ?_))) b1); obtain ⟨c1_0, c1_1⟩ := k2 (w.heap.size) (.int .i64 p) (.int .i64 q) b1 (by and_intros <;> go_simp); obtain ⟨c1_2, c1_3⟩ := k2 (w.heap.size + 1) (.int .i64 r) (.int .i64 s) b1 (by and_intros <;> go_simp); obtain ⟨l1_0, n1_0, m1_0⟩ := lnm (show w.heap.size < w1.heap.size by omega); obtain ⟨l1_1, n1_1, m1_1⟩ := lnm (show w.heap.size + 1 < w1.heap.size by omega); clear b1
      go_wp2_with fail
      (with_reducible refine (H2.out _).mono ?_); rintro e w2 ⟨rfl, b2⟩; have s2 : w1.heap.size ≤ w2.heap.size := sz b2; have B2 := Lib.hid (Bc (B := w.heap.size) (a := w) (by (repeat (first | with_reducible exact Below.refl _ _ | with_reducible refine Bs ?_ | with_reducible refine Ba ?_ | with_reducible refine Bd ?_ | with_reducible refine Bn ?_ | with_reducible refine Bt B1.out ?_))) b2); obtain ⟨c2_0, c2_1⟩ := k2 (w.heap.size) (.int .i64 p) (.int .i64 q) b2 (by and_intros <;> go_simp); obtain ⟨c2_2, c2_3⟩ := k2 (w.heap.size + 1) (.int .i64 r) (.int .i64 s) b2 (by and_intros <;> go_simp); obtain ⟨l2_0, n2_0, m2_0⟩ := lnm (show w.heap.size < w2.heap.size by omega); obtain ⟨l2_1, n2_1, m2_1⟩ := lnm (show w.heap.size + 1 < w2.heap.size by omega); clear b2
      go_wp2_with fail
      (with_reducible refine (H4.out _).mono ?_); rintro e w3 ⟨rfl, b3⟩; have s3 : w2.heap.size ≤ w3.heap.size := sz b3; have B3 := Lib.hid (Bc (B := w.heap.size) (a := w) (by (repeat (first | with_reducible exact Below.refl _ _ | with_reducible refine Bs ?_ | with_reducible refine Ba ?_ | with_reducible refine Bd ?_ | with_reducible refine Bn ?_ | with_reducible refine Bt B2.out ?_))) b3); clear b3
      go_wp2_with fail
      go_ret2
      exact ⟨rfl, by (repeat (first | with_reducible exact Below.refl _ _ | with_reducible refine Bs ?_ | with_reducible refine Ba ?_ | with_reducible refine Bd ?_ | with_reducible refine Bn ?_ | with_reducible refine Bt B3.out ?_))⟩
end Go.Proofs.Ytjmjnkilgoelbaa

namespace Go.Proofs.Ytjmjnkilgoelbaa
open Go.RowKit

/-- app1 at a step of a region that draws its order: all other blocks are as they were. -/
theorem app1_stepG {P : Program} {ops : Array Oper} {o : Oper} {a : Act} {K : Act → World → Prop} {Q : Exit → Act → World → Prop} {E : Prop} (hgd : o.guard = none) (s x : Operand) (t : TypeId)
    (ho : o.op = .call { callee := .builtin .append, args := #[s, x], argTypes := #[t, t] })
    {e : TypeId} {z : Value} {size bytes : Nat} (ht : P.underlying t = some (.slice e)) (hE : EI P e z size bytes)
    (base : Nat) {v : Value} {n : Nat} {xs : List Value} {W : World} {m : Nat} {cs : Array Value} {T : TypeId} {C : Nat} (hs : a.eval s = v) (hown : W.ownsRow base e size v n xs)
    (hx : a.eval x = .slice (some ⟨W.heap.size, 0, none⟩) 1 C) (hcs : cs.size = size) (h1 : ∀ u ∈ cs.toList, u.oneCell' = true)
    (hbytes : (n + 1) * bytes ≤ 140737488355328) (hbase : base ≤ W.heap.size)
    (h : ∀ v' w', w'.ownsRow base e size v' (n + 1) (xs ++ cs.toList) → Below base W w' → (∀ q, q < W.heap.size → v.ownBlock ≠ some q → w'.heap[q]? = W.heap[q]?) → K (a.put o.dst v') w') :
    if Region.wanted o (yielded ops a.tmps) = true then o.wp P a ((W.alloc (.cells cs T)).drewN m) K Q else E := by
  have hw : Region.wanted o (yielded ops a.tmps) = true := by unfold Region.wanted; rw [hgd]
  rw [if_pos hw]
  obtain ⟨i, hi, hz, hsize, hby, hzs, hsz, hbp⟩ := hE
  have h63 : n + 1 ≤ 140737488355328 := Nat.le_trans (Nat.le_mul_of_pos_right _ hbp) hbytes
  have hown2 : ((W.alloc (.cells cs T)).drewN m).ownsRow base e size v n xs := hown.alloc _
  obtain ⟨v', w', hrun, h2, h3, _⟩ := run_append_own_at (P := P) ((W.alloc (.cells cs T)).drewN m) base t o.type e i z size bytes ht hi hz hsize hby hzs hsz v n xs hown2 ⟨W.heap.size, 0, none⟩ 1 C cs.toList (by simp [hcs]) (by
    intro j u hu
    have hadd : (⟨W.heap.size, 0, none⟩ : Addr).add j = ⟨W.heap.size, j, none⟩ := by unfold Addr.add; split <;> simp_all
    rw [hadd]
    have hb := heap_alloc_new W (.cells cs T)
    show (W.alloc (.cells cs T)).cell? _ = _
    simp only [World.cell?, hb]
    simpa using hu) h1 (by unfold maxLen; omega) hbytes (by show base ≤ (W.alloc (.cells cs T)).heap.size; simp; omega)
  unfold Oper.wp execOp
  simp only [ho, resolve, invoke, builtin, Sem.run_bind, Sem.run_pure, Result.andThen_ok, List.map_toArray, List.map_cons, List.map_nil, hs, hx, hrun]
  refine h v' w' h2 ?_ (fun q hq hne => (h3.block q (by show q < (W.alloc (.cells cs T)).heap.size; simp; omega) (fun h => hne h.symm)).trans (Below.heap_alloc _ _ _ hq))
  refine Below.trans ((Below.refl _ _).alloc hbase (.cells cs T)) ?_
  exact (below_drewN (Below.refl _ _) m).trans ((Below.refl _ _).grown h3 (by show base ≤ (W.alloc (.cells cs T)).heap.size; simp; omega) fun k hk => (hown.lt k hk).1)

/-- app1 at a step of a region that draws its order. -/
theorem app1_step {P : Program} {ops : Array Oper} {o : Oper} {a : Act} {K : Act → World → Prop} {Q : Exit → Act → World → Prop} {E : Prop} (hgd : o.guard = none) (s x : Operand) (t : TypeId)
    (ho : o.op = .call { callee := .builtin .append, args := #[s, x], argTypes := #[t, t] })
    {e : TypeId} {z : Value} {size bytes : Nat} (ht : P.underlying t = some (.slice e)) (hE : EI P e z size bytes)
    (base : Nat) {v : Value} {n : Nat} {xs : List Value} {W : World} {m : Nat} {cs : Array Value} {T : TypeId} {C : Nat} (hs : a.eval s = v) (hown : W.ownsRow base e size v n xs)
    (hx : a.eval x = .slice (some ⟨W.heap.size, 0, none⟩) 1 C) (hcs : cs.size = size) (h1 : ∀ u ∈ cs.toList, u.oneCell' = true)
    (hbytes : (n + 1) * bytes ≤ 140737488355328) (hbase : base ≤ W.heap.size)
    (h : ∀ v' w', w'.ownsRow base e size v' (n + 1) (xs ++ cs.toList) → Below base W w' → K (a.put o.dst v') w') :
    if Region.wanted o (yielded ops a.tmps) = true then o.wp P a ((W.alloc (.cells cs T)).drewN m) K Q else E :=
  app1_stepG hgd s x t ho ht hE base hs hown hx hcs h1 hbytes hbase fun v' w' a b _ => h v' w' a b

theorem i64_wrap {z : Int} (h : -9223372036854775808 ≤ z) (h' : z ≤ 9223372036854775807) : IntKind.i64.wrap z = z := by
  rw [IntKind.wrap_i64]; omega

end Go.Proofs.Ytjmjnkilgoelbaa

namespace Go.Proofs.Ytjmjnkilgoelbaa
open Go.RowKit

theorem appInts_step {P : Program} {ops : Array Oper} {o : Oper} {a : Act} {K : Act → World → Prop} {Q : Exit → Act → World → Prop} {E : Prop} (hgd : o.guard = none) (s x : Operand) (t : TypeId)
    (ho : o.op = .call { callee := .builtin .append, args := #[s, x], argTypes := #[t, t] })
    {e : TypeId} {z : Value} {bytes : Nat} (ht : P.underlying t = some (.slice e)) (hE : EI P e z 1 bytes)
    (base : Nat) {v : Value} {n : Nat} {xs : List Value} {W : World} {k : IntKind} {vx : Value} {l : List Int} (hs : a.eval s = v) (hown : W.ownsRow base e 1 v n xs)
    (hx : a.eval x = vx) (hl : Ints k W vx l) (hbytes : (n + l.length) * bytes ≤ 140737488355328) (hbase : base ≤ W.heap.size)
    (h : ∀ v' w', w'.ownsRow base e 1 v' (n + l.length) (xs ++ l.map (Value.int k)) → Below base W w' → (∀ q, q < W.heap.size → v.ownBlock ≠ some q → w'.heap[q]? = W.heap[q]?) → K (a.put o.dst v') w') :
    if Region.wanted o (yielded ops a.tmps) = true then o.wp P a W K Q else E := by
  have hw : Region.wanted o (yielded ops a.tmps) = true := by unfold Region.wanted; rw [hgd]
  rw [if_pos hw]
  obtain ⟨i, hi, hz, hsize, hby, hzs, hsz, hbp⟩ := hE
  have h63 : n + l.length ≤ 140737488355328 := Nat.le_trans (Nat.le_mul_of_pos_right _ hbp) hbytes
  obtain ⟨ad, c, rfl, g1, g2, g3, h4⟩ := hl
  rcases ad with _ | ad
  · have hl0 : l = [] := by
      cases l with
      | nil => rfl
      | cons x l => obtain ⟨b, o, e, _⟩ := h4 0 x rfl; cases e
    subst hl0
    have hrun : (Builtin.append_ #[t, t] o.type #[v, .slice none 0 c]).run P W = .ok v W := by
      rcases hown.2 with ⟨rfl, rfl⟩ | ⟨g, cap, cur, rfl, _, _, hnc, _⟩
      · simp [Builtin.append_, run_underlying ht, sizeOf, typeInfo, hi, Builtin.lenOf, Builtin.firstCells]
      · simp [Builtin.append_, run_underlying ht, sizeOf, typeInfo, hi, Builtin.lenOf, Builtin.firstCells, hnc, storeCells]
    unfold Oper.wp execOp
    simp only [ho, resolve, invoke, builtin, Sem.run_bind, Sem.run_pure, Result.andThen_ok, List.map_toArray, List.map_cons, List.map_nil, hs, hx, List.length_nil, hrun]
    exact h v W (by simpa using hown) (Below.refl _ _) fun _ _ _ => rfl
  · obtain ⟨v', w', hrun, h2, h3, _⟩ := run_append_own_at (P := P) W base t o.type e i z 1 bytes ht hi hz hsize hby hzs hsz v n xs hown ad l.length c (l.map (Value.int k)) (by simp) (by
      intro j u hu
      rw [List.getElem?_map] at hu
      cases hy : l[j]? with
      | none => rw [hy] at hu; cases hu
      | some y =>
        rw [hy] at hu
        obtain ⟨b, o, e, _, hc⟩ := h4 j y hy
        injection e with e
        subst e
        have hadd : (⟨b, o, none⟩ : Addr).add j = ⟨b, o + j, none⟩ := by unfold Addr.add; split <;> simp_all
        rw [hadd, hc]
        simpa using hu) (by intro u hu; obtain ⟨y, _, rfl⟩ := List.mem_map.1 hu; rfl) (by unfold maxLen; omega) hbytes hbase
    unfold Oper.wp execOp
    simp only [ho, resolve, invoke, builtin, Sem.run_bind, Sem.run_pure, Result.andThen_ok, List.map_toArray, List.map_cons, List.map_nil, hs, hx, hrun]
    exact h v' w' h2 ((Below.refl _ _).grown h3 hbase fun k hk => (hown.lt k hk).1) (fun q hq hne => h3.block q hq (fun h => hne h.symm))
end Go.Proofs.Ytjmjnkilgoelbaa

namespace Go.Proofs.Ytjmjnkilgoelbaa
open Go.RowKit

def natsB (l : List Int) : List Int := l.flatMap fun x => putsU x.toNat

theorem u64_wrap {z : Int} (h : 0 ≤ z) (h' : z ≤ 18446744073709551615) : IntKind.u64.wrap z = z := by
  rw [IntKind.wrap_u64]
  omega

theorem newI2 (y z : Int) (W : World) (T : TypeId) (b : Nat) (hb : b = W.heap.size) : Ints .i64 (W.alloc (.cells #[.int .i64 y, .int .i64 z] T)) (.slice (some ⟨b, 0, none⟩) 2 2) [y, z] :=
  Ints.new' .i64 W T #[.int .i64 y, .int .i64 z] [y, z] b 2 2 hb rfl rfl (by omega) (by omega)

theorem natsB_len (l : List Int) : (natsB l).length ≤ 9 * l.length := by
  induction l with
  | nil => simp [natsB]
  | cons x l ih =>
    have := putsU_len (n := x.toNat)
    simp only [natsB, List.flatMap_cons, List.length_append, List.length_cons] at ih ⊢
    omega

theorem natsB_next {l : List Int} {k : Nat} {x : Int} (h : l[k]? = some x) : natsB (l.take (k + 1)) = natsB (l.take k) ++ putsU x.toNat := by
  unfold natsB
  rw [take_snoc' h, List.flatMap_append]
  simp

theorem OwnB.ints' {w : World} {base : Nat} {v : Value} {l : List Int} (h : OwnB w base v l) (hl : l.length ≤ 1000000) : Ints .u8 w v l := (Ints.own h (by omega)).2

set_option maxRecDepth 100000 in
set_option maxHeartbeats 4000000 in
theorem nats_any (v : Value) (pre : List Int) (vl : Value) (ls : List Int) (w : World) (h : Ints .u8 w v pre) (hl : Ints .i64 w vl ls) (h0 : ∀ x ∈ ls, 0 ≤ x ∧ x ≤ 9223372036854775807) (hb : pre.length + 9 * ls.length ≤ 900000) :
    Calls Try.prog 94 #[v, vl] w fun e w' => ∃ v', e = .returned v' ∧ Ints .u8 w' v' (pre ++ natsB ls) ∧ Below w.heap.size w w' := by
  have HP := Lib.hid h
  have H0 := Lib.hid h0
  obtain ⟨ad, c, rfl, q1, q2, q3, hx⟩ := hl
  have HX := Lib.hid hx
  obtain ⟨n, hn⟩ : ∃ n, ls.length = n := ⟨_, rfl⟩
  rw [hn] at q1 q3 hb ⊢
  have HN := Lib.hid hn
  obtain ⟨pa, pc, rfl⟩ := h.shape
  clear h h0 hx hn
  go_enter Try.func94, Try.ntmps94
  go_wp2_with fail
  go_loopw [0, 9] (fun b i wr => ∃ k : Nat, i = .int .i64 k ∧ k ≤ n ∧ Ints .u8 wr b (pre ++ natsB (ls.take k)) ∧ Below w.heap.size w wr) (fun _ i _ => n - (intOf i).toNat)
  case atStart => exact ⟨0, rfl, by omega, by simpa [natsB] using HP.out, by (repeat (first | with_reducible exact Below.refl _ _ | with_reducible refine Bs ?_ | with_reducible refine Ba ?_ | with_reducible refine Bd ?_ | with_reducible refine Bn ?_))⟩
  case round =>
    obtain ⟨k, rfl, hk, hi, hbr⟩ := hrel
    have HI := Lib.hid hi
    have HBR := Lib.hid hbr
    have i1 : (0 : Int) ≤ (k : Int) := by omega
    obtain ⟨ba, bc, rfl⟩ := hi.shape
    have hsz := hbr.size
    have hlb : (pre ++ natsB (ls.take k)).length ≤ 999990 := by
      have := natsB_len (ls.take k)
      rw [List.length_append]
      rw [List.length_take] at this
      omega
    obtain ⟨bl, hbl⟩ : ∃ bl, (pre ++ natsB (ls.take k)).length = bl := ⟨_, rfl⟩
    rw [hbl] at HI hlb ⊢
    have hlb2 : bl + 9 ≤ 1000000 := by omega
    have HBL := Lib.hid hbl
    clear hbl hi
    by_cases hlt : k < n
    · obtain ⟨x, hx⟩ := getElem?_ex (l := ls) (k := k) (by rw [HN.out]; exact hlt)
      obtain ⟨b, o, rfl, hbw, c0⟩ := HX.out k x hx
      have e0 := (hbr.cell (p := ⟨b, o + k, none⟩) hbw).trans c0
      have hx0 := H0.out x (List.mem_of_getElem? hx)
      obtain ⟨m, rfl⟩ : ∃ m : Nat, x = (m : Int) := ⟨x.toNat, by omega⟩
      have i2 : (k : Int) < (n : Int) := by omega
      have HK := Lib.hid (natsB_next hx)
      have HU := Lib.hid (fun W (hW : Ints .u8 W (.slice ba bl bc) (pre ++ natsB (ls.take k))) => putU_any _ _ m W hW (by rw [HBL.out]; exact hlb) (by omega))
      have hm : (m : Int) ≤ 18446744073709551615 := by omega
      clear hbr c0 hx hx0
      go_wp2_with fail
      (with_reducible refine (HU.out _ HI.out).mono ?_)
      rintro e w4 ⟨v4, rfl, o4, b4⟩
      have O4 := Lib.hid (o4.ints' (by have := putsU_len (n := m); rw [List.length_append, HBL.out]; omega))
      have B4 := Lib.hid (show Below wr.heap.size wr w4 from below_tr (by (repeat (first | with_reducible exact Below.refl _ _ | with_reducible refine Bs ?_ | with_reducible refine Ba ?_ | with_reducible refine Bd ?_ | with_reducible refine Bn ?_))) (b4.mono (by first | omega | (simp; done) | (simp; omega))))
      clear b4 o4
      go_wp2_with fail
      go_roundw
      case rel => exact ⟨k + 1, by go_num, by omega, by rw [HK.out, ← List.append_assoc]; exact O4.out, by (repeat (first | with_reducible exact Below.refl _ _ | with_reducible refine Bs ?_ | with_reducible refine Ba ?_ | with_reducible refine Bd ?_ | with_reducible refine Bn ?_ | with_reducible refine Bt B4.out ?_ | with_reducible refine Bt HBR.out ?_))⟩
      case measure => simp [intOf] <;> omega
    · obtain rfl : k = n := by omega
      have htk : ls.take k = ls := List.take_of_length_le (by rw [HN.out]; exact Nat.le_refl _)
      rw [htk] at HI
      clear htk hbr
      go_wp2_with fail
      go_ret
      exact ⟨_, rfl, HI.out, HBR.out⟩
set_option maxRecDepth 100000 in
set_option maxHeartbeats 4000000 in
theorem putScore_any (v : Value) (pre : List Int) (p q : Int) (w : World) (h : Ints .u8 w v pre) (hb : pre.length ≤ 800000) :
    Calls Try.prog 28 #[v, .agg #[.int .i64 p, .int .i64 q]] w fun e w' => ∃ v', e = .returned v' ∧ Ints .u8 w' v' (pre ++ scoreBytes (p, q)) ∧ Below w.heap.size w w' := by
  have HX := Lib.hid h
  obtain ⟨pa, pc, rfl⟩ := h.shape
  have HI := Lib.hid (fun W => sis_any p q W)
  cases hs : scoreB (p, q) with
  | false =>
    have HC := Lib.hid (fun W (hW : Ints .u8 W (.slice pa pre.length pc) pre) => clone8_any _ pre W hW (by omega))
    have HSB := Lib.hid (show scoreBytes (p, q) = [] by unfold scoreBytes; rw [hs]; rfl)
    rw [hs] at HI
    clear hs h
    obtain ⟨n, hn⟩ : ∃ n, pre.length = n := ⟨_, rfl⟩
    have HN := Lib.hid hn
    rw [hn] at HX HC hb ⊢
    clear hn
    go_enter Try.func28, Try.ntmps28
    go_wp2_with fail
    (with_reducible refine (HI.out _).mono ?_); rintro e w1 ⟨rfl, b1⟩; have s1 : w.heap.size + 1 ≤ w1.heap.size := sz b1; have B1 := Lib.hid (Bc (B := w.heap.size) (a := w) (by (repeat (first | with_reducible exact Below.refl _ _ | with_reducible refine Bs ?_ | with_reducible refine Ba ?_ | with_reducible refine Bd ?_ | with_reducible refine Bn ?_))) b1); clear b1
    go_wp2_with fail
    (with_reducible refine (HC.out _ (HX.out.below (by (repeat (first | with_reducible exact Below.refl _ _ | with_reducible refine Bs ?_ | with_reducible refine Ba ?_ | with_reducible refine Bd ?_ | with_reducible refine Bn ?_ | with_reducible refine Bt B1.out ?_))))).mono ?_)
    rintro e w2 ⟨v2, rfl, o2, b2⟩
    have B2 := Lib.hid (below_tr B1.out (b2.mono (by omega)))
    go_wp2_with fail
    go_ret
    exact ⟨_, rfl, by rw [HSB.out, List.append_nil]; exact (Ints.own o2 (by have := HN.out; omega)).2, B2.out⟩
  | true =>
    have hr := scoreB_is.1 hs
    have HN2 := Lib.hid (fun (vl : Value) W (hW : Ints .u8 W (.slice pa pre.length pc) pre) (hl : Ints .i64 W vl [p, q]) => nats_any _ pre vl [p, q] W hW hl (by intro x hx; simp at hx; dsimp only at hr; rcases hx with rfl | rfl <;> omega) (by simp; omega))
    have HSB := Lib.hid (show scoreBytes (p, q) = natsB [p, q] by unfold scoreBytes natsB; rw [if_pos hs]; simp)
    rw [hs] at HI
    clear hs h hr
    generalize pre.length = n at *
    go_enter Try.func28, Try.ntmps28
    go_wp2_with fail
    (with_reducible refine (HI.out _).mono ?_); rintro e w1 ⟨rfl, b1⟩; have s1 : w.heap.size + 1 ≤ w1.heap.size := sz b1; have B1 := Lib.hid (Bc (B := w.heap.size) (a := w) (by (repeat (first | with_reducible exact Below.refl _ _ | with_reducible refine Bs ?_ | with_reducible refine Ba ?_ | with_reducible refine Bd ?_ | with_reducible refine Bn ?_))) b1); obtain ⟨c1_0, c1_1⟩ := k2 (w.heap.size) (.int .i64 p) (.int .i64 q) b1 (by and_intros <;> go_simp); obtain ⟨l1_0, n1_0, m1_0⟩ := lnm (show w.heap.size < w1.heap.size by omega); clear b1
    go_wp2_with fail
    (with_reducible refine (HN2.out _ _ ?_ (newI2 p q w1 3 w1.heap.size rfl)).mono ?_)
    · exact HX.out.below (by (repeat (first | with_reducible exact Below.refl _ _ | with_reducible refine Bs ?_ | with_reducible refine Ba ?_ | with_reducible refine Bd ?_ | with_reducible refine Bn ?_ | with_reducible refine Bt B1.out ?_)))
    rintro e w2 ⟨v2, rfl, i2, b2⟩
    have I2 := Lib.hid i2
    have B2 := Lib.hid (show Below w.heap.size w w2 from below_tr (by (repeat (first | with_reducible exact Below.refl _ _ | with_reducible refine Bs ?_ | with_reducible refine Ba ?_ | with_reducible refine Bd ?_ | with_reducible refine Bn ?_ | with_reducible refine Bt B1.out ?_))) (b2.mono (by simp; omega)))
    clear i2 b2
    go_wp2_with fail
    go_ret
    exact ⟨_, rfl, by rw [HSB.out]; exact I2.out, B2.out⟩

set_option maxRecDepth 100000 in
set_option maxHeartbeats 4000000 in
theorem rscore22_any (p q : Int) (w : World) :
    Calls Try.prog 30 #[.agg #[.int .i64 p, .int .i64 q]] w fun e w' => ∃ v', e = .returned v' ∧ Ints .u8 w' v' (scoreBytes (p, q)) ∧ Below w.heap.size w w' := by
  have HI := Lib.hid (fun W => ris13_any p q W)
  cases hs : scoreB (p, q) with
  | false =>
    have HSB := Lib.hid (show scoreBytes (p, q) = [] by unfold scoreBytes; rw [hs]; rfl)
    rw [hs] at HI
    clear hs
    go_enter Try.func30, Try.ntmps30
    go_wp2_with fail
    (with_reducible refine (HI.out _).mono ?_); rintro e w1 ⟨rfl, b1⟩; have s1 : w.heap.size + 1 ≤ w1.heap.size := sz b1; have B1 := Lib.hid (Bc (B := w.heap.size) (a := w) (by (repeat (first | with_reducible exact Below.refl _ _ | with_reducible refine Bs ?_ | with_reducible refine Ba ?_ | with_reducible refine Bd ?_ | with_reducible refine Bn ?_))) b1); clear b1
    go_wp2_with fail
    go_ret
    exact ⟨_, rfl, by rw [HSB.out]; exact ints_nil _ _ _ _ (by omega), by (repeat (first | with_reducible exact Below.refl _ _ | with_reducible refine Bs ?_ | with_reducible refine Ba ?_ | with_reducible refine Bd ?_ | with_reducible refine Bn ?_ | with_reducible refine Bt B1.out ?_))⟩
  | true =>
    have hr := scoreB_is.1 hs
    have HSB := Lib.hid (show scoreBytes (p, q) = putsU p.toNat ++ putsU q.toNat by unfold scoreBytes; rw [if_pos hs])
    obtain ⟨⟨g1, g2⟩, ⟨g3, g4⟩, _⟩ := hr
    dsimp only at g1 g2 g3 g4
    obtain ⟨P, rfl⟩ : ∃ P : Nat, p = (P : Int) := ⟨p.toNat, by omega⟩
    obtain ⟨Q, rfl⟩ : ∃ Q : Nat, q = (Q : Int) := ⟨q.toNat, by omega⟩
    have H1 := Lib.hid (fun W => rU_any P W (by omega))
    have H2 := Lib.hid (fun W => rU_any Q W (by omega))
    rw [← u64_wrap (z := (P : Int)) (by omega) (by omega)] at H1
    rw [← u64_wrap (z := (Q : Int)) (by omega) (by omega)] at H2
    have hl1 := putsU_len (n := P)
    have hl2 := putsU_len (n := Q)
    have HL1 := Lib.hid hl1
    have HL2 := Lib.hid hl2
    have hp1 : (P : Int) ≤ 18446744073709551615 := by omega
    have hq1 : (Q : Int) ≤ 18446744073709551615 := by omega
    rw [hs] at HI
    clear hs hl1 hl2
    have P0 := Lib.hid True.intro
    go_enter Try.func30, Try.ntmps30
    go_wp2_with fail
    (with_reducible refine (HI.out _).mono ?_); rintro e w1 ⟨rfl, b1⟩; have s1 : w.heap.size + 1 ≤ w1.heap.size := sz b1; have B1 := Lib.hid (Bc (B := w.heap.size) (a := w) (by (repeat (first | with_reducible exact Below.refl _ _ | with_reducible refine Bs ?_ | with_reducible refine Ba ?_ | with_reducible refine Bd ?_ | with_reducible refine Bn ?_))) b1); obtain ⟨c1_0, c1_1⟩ := k2 (w.heap.size) (.int .i64 P) (.int .i64 Q) b1 (by and_intros <;> go_simp); obtain ⟨l1_0, n1_0, m1_0⟩ := lnm (show w.heap.size < w1.heap.size by omega); clear b1
    go_wp2_with fail
    go_region_held3 (fun w' => w'.cell? ⟨w.heap.size, 0, none⟩ = some (.int .i64 P) ∧ w'.cell? ⟨w.heap.size, 1, none⟩ = some (.int .i64 Q)) (first | (go_simp; done) | (go_keep; done) | (refine ⟨?_, ?_⟩ <;> first | (go_simp; done) | (go_keep; done))) (first | (first | (go_at_call 95; clear P0; (with_reducible refine (H1.out _).mono ?_); rintro e w4 ⟨v4, rfl, o4, b4⟩; have P1 := Lib.hid True.intro; have s4 : w1.heap.size ≤ w4.heap.size := (by have := b4.size; first | omega | (simp at this; omega)); have B4 := Lib.hid (show Below w.heap.size w w4 from below_tr (by (repeat (first | with_reducible exact Below.refl _ _ | with_reducible refine Bs ?_ | with_reducible refine Ba ?_ | with_reducible refine Bd ?_ | with_reducible refine Bn ?_ | with_reducible refine Bt B1.out ?_))) (b4.mono (by first | omega | (simp; done) | (simp; omega)))); have O4 := Lib.hid o4; have z0 : w4.cell? ⟨w.heap.size, 0, none⟩ = some (.int .i64 P) := (b4.cell (by first | omega | (simp; done) | (simp; omega))).trans (by go_simp); have z1 : w4.cell? ⟨w.heap.size, 1, none⟩ = some (.int .i64 Q) := (b4.cell (by first | omega | (simp; done) | (simp; omega))).trans (by go_simp); clear o4 b4) | (go_at_call 95; clear P1; (with_reducible refine (H2.out _).mono ?_); rintro e w5 ⟨v5, rfl, o5, b5⟩; have s5 : w4.heap.size ≤ w5.heap.size := (by have := b5.size; first | omega | (simp at this; omega)); have B5 := Lib.hid (show Below w.heap.size w w5 from below_tr (by (repeat (first | with_reducible exact Below.refl _ _ | with_reducible refine Bs ?_ | with_reducible refine Ba ?_ | with_reducible refine Bd ?_ | with_reducible refine Bn ?_ | with_reducible refine Bt B4.out ?_))) (b5.mono (by first | omega | (simp; done) | (simp; omega)))); have I5 := Lib.hid (o5.ints' (by have := HL2.out; omega)); have O5 := Lib.hid (own_keep O4.out (fun g _ hg => b5.block g hg)); have y0 : w5.cell? ⟨w.heap.size, 0, none⟩ = some (.int .i64 P) := (b5.cell (by first | omega | (simp; done) | (simp; omega))).trans (by go_simp); have y1 : w5.cell? ⟨w.heap.size, 1, none⟩ = some (.int .i64 Q) := (b5.cell (by first | omega | (simp; done) | (simp; omega))).trans (by go_simp); clear o5 b5) | (refine appInts_step rfl _ _ 48 rfl Try.underlying48 eiU8 w1.heap.size (by rfl) O5.out (by rfl) I5.out (by have := HL1.out; have := HL2.out; omega) (by omega) ?_; intro v6 w6 hown6 hb6 _; have O6 := Lib.hid hown6; have B6 := Lib.hid (show Below w.heap.size w w6 from below_tr (by (repeat (first | with_reducible exact Below.refl _ _ | with_reducible refine Bs ?_ | with_reducible refine Ba ?_ | with_reducible refine Bd ?_ | with_reducible refine Bn ?_ | with_reducible refine Bt B5.out ?_))) (hb6.mono (by omega))); have x0 : w6.cell? ⟨w.heap.size, 0, none⟩ = some (.int .i64 P) := (hb6.cell (by first | omega | (simp; done) | (simp; omega))).trans (by go_simp); have x1 : w6.cell? ⟨w.heap.size, 1, none⟩ = some (.int .i64 Q) := (hb6.cell (by first | omega | (simp; done) | (simp; omega))).trans (by go_simp); clear hown6 hb6)))
    go_wp2_with fail
    go_ret
    have hown := O6.out
    rw [← List.map_append] at hown
    exact ⟨_, rfl, by rw [HSB.out]; exact (Ints.own hown (by have := HL1.out; have := HL2.out; simp; omega)).2, B6.out⟩

end Go.Proofs.Ytjmjnkilgoelbaa

namespace Go.Proofs.Ytjmjnkilgoelbaa
open Go.RowKit

theorem RdTo.rd {w w' : World} {R : Nat} {v : Value} {l : List Int} {a : Nat} {e : Int} (h : RdTo w R v l w' a e) : Rd w' R v l a e := h.1

set_option maxRecDepth 100000 in
set_option maxHeartbeats 4000000 in
theorem checkedS_any {w : World} {R : Nat} {v : Value} {l : List Int} {a : Nat} {e0 : Int} (h : Rd w R v l a e0) (p q : Int) (B : Bool) (hr : ∀ W, Calls Try.prog 79 #[.agg #[.int .i64 p, .int .i64 q]] W fun e w' => e = .returned (.bool B) ∧ Below W.heap.size W w') :
    Calls Try.prog 97 #[.pointer (some ⟨R, 0, none⟩), .agg #[.int .i64 p, .int .i64 q], .func (.func 79) #[] #[]] w fun e w' => e = .returned (if finE e0 B = 0 then .agg #[.int .i64 p, .int .i64 q] else .agg #[.int .i64 0, .int .i64 0]) ∧ RdTo w R v l w' a (finE e0 B) := by
  have H := Lib.hid h
  have hR := h.lt
  have HR := Lib.hid hr
  clear h hr
  by_cases he : e0 = 0
  · subst he
    cases B with
    | true =>
      rw [show finE 0 true = 0 from rfl, if_pos rfl]
      go_enter Try.func97, Try.ntmps97
      go_wp2_with fail
      refine (err_any (H.out.below (by (repeat (first | with_reducible exact Below.refl _ _ | with_reducible refine Bs ?_ | with_reducible refine Ba ?_ | with_reducible refine Bd ?_ | with_reducible refine Bn ?_))))).mono ?_
      rintro e w1 ⟨rfl, rfl⟩
      go_wp2_with fail
      (with_reducible refine (HR.out _).mono ?_); rintro e w1 ⟨rfl, b1⟩; have s1 : w.heap.size + 1 + 1 + 1 ≤ w1.heap.size := sz b1; have B1 := Lib.hid (Bc (B := w.heap.size) (a := w) (by (repeat (first | with_reducible exact Below.refl _ _ | with_reducible refine Bs ?_ | with_reducible refine Ba ?_ | with_reducible refine Bd ?_ | with_reducible refine Bn ?_))) b1); obtain ⟨c1_0, c1_1⟩ := k2 (w.heap.size) (.int .i64 p) (.int .i64 q) b1 (by and_intros <;> go_simp); obtain ⟨c1_2, f1_2, c1_3, f1_3⟩ := k2f (w.heap.size + 1) (.int .i64 0) (.int .i64 0) b1 (by and_intros <;> go_simp); obtain ⟨l1_0, n1_0, m1_0⟩ := lnm (show w.heap.size < w1.heap.size by omega); obtain ⟨l1_1, n1_1, m1_1⟩ := lnm (show w.heap.size + 1 < w1.heap.size by omega); clear b1
      go_wp2_with fail
      refine (err_any (H.out.below (show Below w.heap.size w _ from by (repeat (first | with_reducible exact Below.refl _ _ | with_reducible refine Bs ?_ | with_reducible refine Ba ?_ | with_reducible refine Bd ?_ | with_reducible refine Bn ?_ | with_reducible refine Bt B1.out ?_))))).mono ?_
      rintro e w2 ⟨rfl, rfl⟩
      go_wp2_with fail
      exact bodyPost_ret (v := .agg #[.int .i64 p, .int .i64 q]) (by simp [results, Try.results97, go_sem, *]) rfl ⟨rfl, RdTo.belowB H.out (RdTo.refl H.out) (by (repeat (first | with_reducible exact Below.refl _ _ | with_reducible refine Bs ?_ | with_reducible refine Ba ?_ | with_reducible refine Bd ?_ | with_reducible refine Bn ?_ | with_reducible refine Bt B1.out ?_)))⟩
    | false =>
      rw [show finE 0 false = 211 from rfl, if_neg (by decide)]
      go_enter Try.func97, Try.ntmps97
      go_wp2_with fail
      refine (err_any (H.out.below (by (repeat (first | with_reducible exact Below.refl _ _ | with_reducible refine Bs ?_ | with_reducible refine Ba ?_ | with_reducible refine Bd ?_ | with_reducible refine Bn ?_))))).mono ?_
      rintro e w1 ⟨rfl, rfl⟩
      go_wp2_with fail
      (with_reducible refine (HR.out _).mono ?_); rintro e w1 ⟨rfl, b1⟩; have s1 : w.heap.size + 1 + 1 + 1 ≤ w1.heap.size := sz b1; have B1 := Lib.hid (Bc (B := w.heap.size) (a := w) (by (repeat (first | with_reducible exact Below.refl _ _ | with_reducible refine Bs ?_ | with_reducible refine Ba ?_ | with_reducible refine Bd ?_ | with_reducible refine Bn ?_))) b1); obtain ⟨c1_0, c1_1⟩ := k2 (w.heap.size + 2) (.int .i64 0) (.int .i64 0) b1 (by and_intros <;> go_simp); obtain ⟨c1_2, f1_2, c1_3, f1_3⟩ := k2f (w.heap.size + 1) (.int .i64 0) (.int .i64 0) b1 (by and_intros <;> go_simp); obtain ⟨l1_0, n1_0, m1_0⟩ := lnm (show w.heap.size + 2 < w1.heap.size by omega); obtain ⟨l1_1, n1_1, m1_1⟩ := lnm (show w.heap.size + 1 < w1.heap.size by omega); clear b1
      go_wp2_with fail
      refine (fail_any (H.out.below (show Below w.heap.size w _ from by (repeat (first | with_reducible exact Below.refl _ _ | with_reducible refine Bs ?_ | with_reducible refine Ba ?_ | with_reducible refine Bd ?_ | with_reducible refine Bn ?_ | with_reducible refine Bt B1.out ?_)))) 211).mono ?_
      rintro e w2 ⟨rfl, hr2⟩
      rw [show failE 0 211 = 211 from rfl] at hr2
      have hg := hr2.2
      have HR2 := Lib.hid (RdTo.from (w := w) (show Below w.heap.size w _ from by (repeat (first | with_reducible exact Below.refl _ _ | with_reducible refine Bs ?_ | with_reducible refine Ba ?_ | with_reducible refine Bd ?_ | with_reducible refine Bn ?_ | with_reducible refine Bt B1.out ?_))) hr2)
      have hsz : w1.heap.size ≤ w2.heap.size := hg.size
      have z0 := (only_cell hg (w.heap.size + 2) 0 (by omega) (by omega)).trans c1_0
      have z1 := (only_cell hg (w.heap.size + 2) 1 (by omega) (by omega)).trans c1_1
      have y0 := (only_cell hg (w.heap.size + 1) 0 (by omega) (by omega)).trans c1_2
      have x0 := (only_frozen hg (w.heap.size + 1) 0 (by omega) (by omega)).trans f1_2
      have y1 := (only_cell hg (w.heap.size + 1) 1 (by omega) (by omega)).trans c1_3
      have x1 := (only_frozen hg (w.heap.size + 1) 1 (by omega) (by omega)).trans f1_3
      clear hr2 hg
      go_wp2_with fail
      refine (err_any HR2.out.1).mono ?_
      rintro e w3 ⟨rfl, rfl⟩
      go_wp2_with fail
      exact bodyPost_ret (v := .agg #[.int .i64 0, .int .i64 0]) (by simp [results, Try.results97, go_sem, *]) rfl ⟨rfl, RdTo.belowB H.out HR2.out (by (repeat (first | with_reducible exact Below.refl _ _ | with_reducible refine Bs ?_ | with_reducible refine Ba ?_ | with_reducible refine Bd ?_ | with_reducible refine Bn ?_)))⟩
  · have j1 : (e0 == 0) = false := by simpa using he
    have j2 : (e0 != 0) = true := by simpa using he
    have e1 : finE e0 B = e0 := if_neg he
    rw [e1, if_neg he]
    clear e1 he
    go_enter Try.func97, Try.ntmps97
    go_wp2_with fail
    refine (err_any (H.out.below (by (repeat (first | with_reducible exact Below.refl _ _ | with_reducible refine Bs ?_ | with_reducible refine Ba ?_ | with_reducible refine Bd ?_ | with_reducible refine Bn ?_))))).mono ?_
    rintro e w1 ⟨rfl, rfl⟩
    go_wp2_with fail
    refine (err_any (H.out.below (by (repeat (first | with_reducible exact Below.refl _ _ | with_reducible refine Bs ?_ | with_reducible refine Ba ?_ | with_reducible refine Bd ?_ | with_reducible refine Bn ?_))))).mono ?_
    rintro e w2 ⟨rfl, rfl⟩
    go_wp2_with fail
    exact bodyPost_ret (v := .agg #[.int .i64 0, .int .i64 0]) (by simp [results, Try.results97, go_sem, *]) rfl ⟨rfl, RdTo.belowB H.out (RdTo.refl H.out) (by (repeat (first | with_reducible exact Below.refl _ _ | with_reducible refine Bs ?_ | with_reducible refine Ba ?_ | with_reducible refine Bd ?_ | with_reducible refine Bn ?_)))⟩

set_option maxRecDepth 100000 in
set_option maxHeartbeats 4000000 in
theorem getScore_any {w : World} {R : Nat} {v : Value} {l : List Int} {a : Nat} {e0 : Int} (h : Rd w R v l a e0) (hb : AllB l) (ha : a ≤ l.length) (hl : l.length ≤ 100000) :
    Calls Try.prog 32 #[.pointer (some ⟨R, 0, none⟩)] w fun e w' => e = .returned (.agg #[.int .i64 (getSV l a e0).1, .int .i64 (getSV l a e0).2]) ∧ RdTo w R v l w' (gS l a e0).2.1 (getSE l a e0) := by
  have H := Lib.hid h
  have hR := h.lt
  have h1 := fun W (hW : Rd W R v l a e0) => readN_all hW hb ha hl 274877906944 (by decide)
  have ha1 := rdN'_le hb ha e0 274877906944
  have h2 := fun W (hW : Rd W R v l (rdN' l a e0 274877906944).2.1 (rdN' l a e0 274877906944).2.2) => readN_all hW hb ha1 hl 1099511627776 (by decide)
  have hgs : gS l a e0 = ((((rdN' l a e0 274877906944).1 : Int), ((rdN' l (rdN' l a e0 274877906944).2.1 (rdN' l a e0 274877906944).2.2 1099511627776).1 : Int)), (rdN' l (rdN' l a e0 274877906944).2.1 (rdN' l a e0 274877906944).2.2 1099511627776).2) := rfl
  have hse : getSE l a e0 = finE (gS l a e0).2.2 (scoreB (gS l a e0).1) := rfl
  have hsv : getSV l a e0 = if finE (gS l a e0).2.2 (scoreB (gS l a e0).1) = 0 then (gS l a e0).1 else (0, 0) := rfl
  rw [hgs] at hse hsv
  rw [hgs, hse, hsv]
  clear ha1 hgs hse hsv h
  generalize rdN' l a e0 274877906944 = r1 at *
  obtain ⟨p, a1, e1⟩ := r1
  dsimp only at h1 h2 ⊢
  generalize rdN' l a1 e1 1099511627776 = r2 at *
  obtain ⟨q, a2, e2⟩ := r2
  dsimp only at h1 h2 ⊢
  have H1 := Lib.hid h1
  have H2 := Lib.hid h2
  have H3 := Lib.hid (fun W (hW : Rd W R v l a2 e2) => checkedS_any hW (p : Int) (q : Int) _ (fun W => sis_any (p : Int) (q : Int) W))
  clear h1 h2 hb ha hl
  generalize scoreB ((p : Int), (q : Int)) = B at *
  generalize finE e2 B = E at *
  have hif : (if E = 0 then (((p : Int), (q : Int)) : Int × Int) else (0, 0)) = ((if E = 0 then (p : Int) else 0), (if E = 0 then (q : Int) else 0)) := by split <;> rfl
  have hif2 : (if E = 0 then (Value.agg #[.int .i64 (p : Int), .int .i64 (q : Int)]) else .agg #[.int .i64 0, .int .i64 0]) = .agg #[.int .i64 (if E = 0 then (p : Int) else 0), .int .i64 (if E = 0 then (q : Int) else 0)] := by split <;> rfl
  rw [hif]
  rw [hif2] at H3
  clear hif hif2
  dsimp only
  generalize (if E = 0 then (p : Int) else 0) = X at *
  generalize (if E = 0 then (q : Int) else 0) = Y at *
  go_enter Try.func32, Try.ntmps32
  go_wp2_with fail
  (with_reducible refine (H1.out _ (H.out.below (by (repeat (first | with_reducible exact Below.refl _ _ | with_reducible refine Bs ?_ | with_reducible refine Ba ?_ | with_reducible refine Bd ?_ | with_reducible refine Bn ?_))))).mono ?_)
  rintro e w1 ⟨rfl, r1⟩
  have hg1 := r1.2
  have T1 := Lib.hid (RdTo.from (w := w) (show Below w.heap.size w _ from by (repeat (first | with_reducible exact Below.refl _ _ | with_reducible refine Bs ?_ | with_reducible refine Ba ?_ | with_reducible refine Bd ?_ | with_reducible refine Bn ?_))) r1)
  have z1 := hg1.size
  have zz1 := T1.out.2.size
  have c1_0 : w1.cell? ⟨w.heap.size, 0, none⟩ = some (.int .i64 0) := (only_cell hg1 (w.heap.size) 0 (by first | omega | (simp; done) | (simp; omega)) (by omega)).trans (by go_simp)
  have f1_0 : w1.frozen? ⟨w.heap.size, 0, none⟩ = false := (only_frozen hg1 (w.heap.size) 0 (by first | omega | (simp; done) | (simp; omega)) (by omega)).trans (by go_simp)
  have c1_1 : w1.cell? ⟨w.heap.size, 1, none⟩ = some (.int .i64 0) := (only_cell hg1 (w.heap.size) 1 (by first | omega | (simp; done) | (simp; omega)) (by omega)).trans (by go_simp)
  have f1_1 : w1.frozen? ⟨w.heap.size, 1, none⟩ = false := (only_frozen hg1 (w.heap.size) 1 (by first | omega | (simp; done) | (simp; omega)) (by omega)).trans (by go_simp)
  have hl1 : w.heap.size < w1.heap.size := by first | omega | (simp at z1; omega)
  clear r1 hg1
  go_wp2_with fail
  (with_reducible refine (H2.out _ T1.out.rd).mono ?_)
  rintro e w2 ⟨rfl, r2⟩
  have hg2 := r2.2
  have T2 := Lib.hid (RdTo.trans (RdTo.belowB H.out T1.out (by (repeat (first | with_reducible exact Below.refl _ _ | with_reducible refine Bs ?_ | with_reducible refine Ba ?_ | with_reducible refine Bd ?_ | with_reducible refine Bn ?_)))) r2)
  have z2 := hg2.size
  have zz2 := T2.out.2.size
  have c2_0 : w2.cell? ⟨w.heap.size, 0, none⟩ = some (.int .i64 0) := (only_cell hg2 (w.heap.size) 0 (by first | omega | (simp; done) | (simp; omega)) (by omega)).trans (by go_simp)
  have f2_0 : w2.frozen? ⟨w.heap.size, 0, none⟩ = false := (only_frozen hg2 (w.heap.size) 0 (by first | omega | (simp; done) | (simp; omega)) (by omega)).trans (by go_simp)
  have c2_1 : w2.cell? ⟨w.heap.size, 1, none⟩ = some (.int .i64 0) := (only_cell hg2 (w.heap.size) 1 (by first | omega | (simp; done) | (simp; omega)) (by omega)).trans (by go_simp)
  have f2_1 : w2.frozen? ⟨w.heap.size, 1, none⟩ = false := (only_frozen hg2 (w.heap.size) 1 (by first | omega | (simp; done) | (simp; omega)) (by omega)).trans (by go_simp)
  have hl2 : w.heap.size < w2.heap.size := by first | omega | (simp at z2; omega)
  clear r2 hg2
  go_wp2_with fail
  (with_reducible refine (H3.out _ T2.out.rd).mono ?_)
  rintro e w3 ⟨rfl, r3⟩
  have hg3 := r3.2
  have T3 := Lib.hid (RdTo.trans (RdTo.belowB H.out T2.out (by (repeat (first | with_reducible exact Below.refl _ _ | with_reducible refine Bs ?_ | with_reducible refine Ba ?_ | with_reducible refine Bd ?_ | with_reducible refine Bn ?_)))) r3)
  have z3 := hg3.size
  have zz3 := T3.out.2.size
  have c3_0 : w3.cell? ⟨w.heap.size, 0, none⟩ = some (.int .i64 0) := (only_cell hg3 (w.heap.size) 0 (by first | omega | (simp; done) | (simp; omega)) (by omega)).trans (by go_simp)
  have f3_0 : w3.frozen? ⟨w.heap.size, 0, none⟩ = false := (only_frozen hg3 (w.heap.size) 0 (by first | omega | (simp; done) | (simp; omega)) (by omega)).trans (by go_simp)
  have c3_1 : w3.cell? ⟨w.heap.size, 1, none⟩ = some (.int .i64 0) := (only_cell hg3 (w.heap.size) 1 (by first | omega | (simp; done) | (simp; omega)) (by omega)).trans (by go_simp)
  have f3_1 : w3.frozen? ⟨w.heap.size, 1, none⟩ = false := (only_frozen hg3 (w.heap.size) 1 (by first | omega | (simp; done) | (simp; omega)) (by omega)).trans (by go_simp)
  have hl3 : w.heap.size < w3.heap.size := by first | omega | (simp at z3; omega)
  clear r3 hg3
  go_wp2_with fail
  exact bodyPost_ret (v := .agg #[.int .i64 X, .int .i64 Y]) (by simp [results, Try.results32, go_sem, *]) rfl ⟨rfl, RdTo.belowB H.out T3.out (by (repeat (first | with_reducible exact Below.refl _ _ | with_reducible refine Bs ?_ | with_reducible refine Ba ?_ | with_reducible refine Bd ?_ | with_reducible refine Bn ?_)))⟩

theorem rform_any (ad : Option Addr) (n c : Nat) (a e0 : Int) (B : Bool) (w : World) :
    Calls Try.prog 99 #[.agg #[.slice ad n c, .int .i64 a, .int .i64 e0], .bool B] w fun e w' => e = .returned (.agg #[.slice ad n c, .int .i64 a, .int .i64 (finE e0 B)]) ∧ Below w.heap.size w w' := by
  cases B with
  | true =>
    have e1 : finE e0 true = e0 := by unfold finE; split <;> simp_all
    rw [e1]
    clear e1
    go_enter Try.func99, Try.ntmps99
    go_wp2_with fail
    exact bodyPost_ret (v := .agg #[.slice ad n c, .int .i64 a, .int .i64 e0]) (by simp [results, Try.results99, go_sem, *]) rfl ⟨rfl, by (repeat (first | with_reducible exact Below.refl _ _ | with_reducible refine Bs ?_ | with_reducible refine Ba ?_ | with_reducible refine Bd ?_ | with_reducible refine Bn ?_))⟩
  | false =>
    have e1 : failE e0 211 = finE e0 false := by rw [finE_fail]; rfl
    have HF := Lib.hid (fun W => rFail_all (.slice ad n c) ad n c rfl a e0 211 W)
    rw [e1] at HF
    generalize finE e0 false = E at *
    clear e1
    go_enter Try.func99, Try.ntmps99
    go_wp2_with fail
    (with_reducible refine (HF.out _).mono ?_); rintro e w1 ⟨rfl, b1⟩; have s1 : w.heap.size + 1 + 1 ≤ w1.heap.size := sz b1; have B1 := Lib.hid (Bc (B := w.heap.size) (a := w) (by (repeat (first | with_reducible exact Below.refl _ _ | with_reducible refine Bs ?_ | with_reducible refine Ba ?_ | with_reducible refine Bd ?_ | with_reducible refine Bn ?_))) b1); obtain ⟨c1_0, f1_0, c1_1, f1_1, c1_2, f1_2⟩ := k3f (w.heap.size + 1) (.slice none 0 0) (.int .i64 0) (.int .i64 0) b1 (by and_intros <;> go_simp); obtain ⟨l1_0, n1_0, m1_0⟩ := lnm (show w.heap.size + 1 < w1.heap.size by omega); clear b1
    go_wp2_with fail
    exact bodyPost_ret (v := .agg #[.slice ad n c, .int .i64 a, .int .i64 E]) (by simp [results, Try.results99, go_sem, *]) rfl ⟨rfl, by (repeat (first | with_reducible exact Below.refl _ _ | with_reducible refine Bs ?_ | with_reducible refine Ba ?_ | with_reducible refine Bd ?_ | with_reducible refine Bn ?_ | with_reducible refine Bt B1.out ?_))⟩

end Go.Proofs.Ytjmjnkilgoelbaa

namespace Go.Proofs.Ytjmjnkilgoelbaa
open Go.RowKit

/-- A node, by its numbers. -/
structure NodeP where
  coef : List Int
  at_ : Int
  left : Int
  right : Int
  size : Int

/-- A tree, by its numbers. -/
structure TreeP where
  dim : Int
  nodes : List NodeP

def vecB (v : List Int) (dim : Int) : Bool :=
  decide (1 ≤ dim) && decide (dim ≤ 8) && decide ((v.length : Int) = dim) && v.all fun x => decide (-2147483648 ≤ x) && decide (x ≤ 2147483647)
def partsB (c : List Int) (dim : Int) : Bool :=
  decide (1 ≤ dim) && decide (dim ≤ 8) && decide ((c.length : Int) = dim) && (c.all fun x => decide (-4 ≤ x) && decide (x ≤ 4)) && c.any fun x => decide (x ≠ 0)
def cutB (c : List Int) (a dim : Int) : Bool := decide (-137438953472 ≤ a) && decide (a ≤ 137438953472) && partsB c dim
def leafB (n : NodeP) : Bool := decide (n.left = 0) && decide (n.right = 0) && decide (n.coef.length = 0) && decide (n.at_ = 0) && decide (1 ≤ n.size)

def dotI : List Int → List Int → Int
  | c :: cs, x :: xs => c * x + dotI cs xs
  | _, _ => 0

/-- The nodes of a part of a tree: where it begins, where it ends, how high it is, how many points it has. -/
inductive Sub (t : TreeP) : Nat → Nat → Nat → Int → Prop
  | leaf {i : Nat} {n : NodeP} : t.nodes[i]? = some n → leafB n = true → Sub t i (i + 1) 0 n.size
  | node {i m e a b : Nat} {x y : Int} {n : NodeP} : t.nodes[i]? = some n → n.left = (i : Int) + 1 → cutB n.coef n.at_ t.dim = true → Sub t (i + 1) m a x → n.right = (m : Int) → Sub t m e b y →
      n.size = x + y → Sub t i e (1 + max a b) n.size

theorem leafB_is {n : NodeP} (h : leafB n = true) : n.left = 0 ∧ n.right = 0 ∧ n.coef = [] ∧ n.at_ = 0 ∧ 1 ≤ n.size := by
  unfold leafB at h
  simp only [Bool.and_eq_true, decide_eq_true_eq] at h
  exact ⟨h.1.1.1.1, h.1.1.1.2, List.eq_nil_of_length_eq_zero h.1.1.2, h.1.2, h.2⟩

theorem Sub.lt {t : TreeP} {i e h : Nat} {s : Int} (q : Sub t i e h s) : i < e ∧ e ≤ t.nodes.length := by
  induction q with
  | leaf hn _ => exact ⟨by omega, (List.getElem?_eq_some_iff.1 hn).1⟩
  | node hn _ _ _ _ _ _ ih1 ih2 => omega

theorem Sub.at_ {t : TreeP} {i e h : Nat} {s : Int} (q : Sub t i e h s) : ∃ n, t.nodes[i]? = some n ∧ n.size = s := by
  cases q with
  | leaf hn _ => exact ⟨_, hn, rfl⟩
  | node hn _ _ _ _ _ _ => exact ⟨_, hn, rfl⟩

theorem Sub.pos {t : TreeP} {i e h : Nat} {s : Int} (q : Sub t i e h s) : 1 ≤ s := by
  induction q with
  | leaf hn hl => exact (leafB_is hl).2.2.2.2
  | node hn _ _ _ _ _ hs ih1 ih2 => omega

theorem Sub.room {t : TreeP} {i e h : Nat} {s : Int} (q : Sub t i e h s) : (e : Int) + 1 ≤ i + 2 * s := by
  induction q with
  | leaf hn hl => have := (leafB_is hl).2.2.2.2; omega
  | node hn _ _ _ _ _ hs ih1 ih2 => omega

theorem Sub.high {t : TreeP} {i e h : Nat} {s : Int} (q : Sub t i e h s) : h + 1 + i ≤ e := by
  induction q with
  | leaf hn hl => omega
  | node hn _ _ _ _ _ hs ih1 ih2 => omega

theorem Sub.same {t : TreeP} {i e h : Nat} {s : Int} (q : Sub t i e h s) : ∀ {e' h' : Nat} {s' : Int}, Sub t i e' h' s' → e = e' ∧ h = h' ∧ s = s' := by
  induction q with
  | leaf hn hl =>
    intro e' h' s' q'
    cases q' with
    | leaf hn' _ =>
      rw [hn] at hn'
      injection hn' with hn'
      subst hn'
      exact ⟨rfl, rfl, rfl⟩
    | node hn' hl' =>
      rw [hn] at hn'
      injection hn' with hn'
      subst hn'
      have := (leafB_is hl).1
      omega
  | @node i m e a b x y n hn hl hc q1 hr q2 hs ih1 ih2 =>
    intro e' h' s' q'
    cases q' with
    | leaf hn' hl' =>
      rw [hn] at hn'
      injection hn' with hn'
      subst hn'
      have := (leafB_is hl').1
      omega
    | @node _ m' _ _ _ _ _ n' hn' _ _ q1' hr' q2' hs' =>
      rw [hn] at hn'
      injection hn' with hn'
      subst hn'
      obtain ⟨e1, e2, e3⟩ := ih1 q1'
      have hm : m = m' := by omega
      subst hm
      obtain ⟨f1, f2, f3⟩ := ih2 q2'
      subst e2 f1 f2
      exact ⟨rfl, rfl, rfl⟩

/-- Each node of a part is the first one of a part, no larger. -/
theorem Sub.parts {t : TreeP} {i e h : Nat} {s : Int} (q : Sub t i e h s) : ∀ j, i ≤ j → j < e → ∃ e' h' s', Sub t j e' h' s' ∧ e' ≤ e ∧ h' ≤ h ∧ s' ≤ s := by
  induction q with
  | @leaf i n hn hl =>
    intro j h1 h2
    obtain rfl : j = i := by omega
    exact ⟨_, _, _, .leaf hn hl, by omega, by omega, by omega⟩
  | @node i m e a b x y n hn hl hc q1 hr q2 hs ih1 ih2 =>
    intro j h1 h2
    have p1 := q1.pos; have p2 := q2.pos
    have l1 := q1.lt; have l2 := q2.lt
    rcases Nat.lt_or_ge j (i + 1) with hj | hj
    · obtain rfl : j = i := by omega
      exact ⟨_, _, _, .node hn hl hc q1 hr q2 hs, by omega, by omega, by omega⟩
    · rcases Nat.lt_or_ge j m with hj2 | hj2
      · obtain ⟨e', h', s', q, g1, g2, g3⟩ := ih1 j hj hj2
        exact ⟨e', h', s', q, by omega, by omega, by omega⟩
      · obtain ⟨e', h', s', q, g1, g2, g3⟩ := ih2 j hj2 h2
        exact ⟨e', h', s', q, by omega, by omega, by omega⟩

/-- What a node at a place must be, where it is the first one of a part. -/
theorem Sub.inv {t : TreeP} {i e h : Nat} {s : Int} {n : NodeP} (q : Sub t i e h s) (hn : t.nodes[i]? = some n) : (leafB n = true ∧ e = i + 1 ∧ h = 0 ∧ s = n.size) ∨
    ∃ m a b x y, n.left = (i : Int) + 1 ∧ cutB n.coef n.at_ t.dim = true ∧ Sub t (i + 1) m a x ∧ n.right = (m : Int) ∧ Sub t m e b y ∧ n.size = x + y ∧ h = 1 + max a b ∧ s = n.size := by
  cases q with
  | leaf hn' hl =>
    rw [hn] at hn'
    injection hn' with hn'
    subst hn'
    exact .inl ⟨hl, rfl, rfl, rfl⟩
  | @node _ m _ a b x y _ hn' hl hc q1 hr q2 hs =>
    rw [hn] at hn'
    injection hn' with hn'
    subst hn'
    exact .inr ⟨m, a, b, x, y, hl, hc, q1, hr, q2, hs, rfl, rfl⟩

def logI (n : Int) : Nat := Lib.bitLen (n.toNat - 1)

/-- Is it a tree? -/
def IsTree (t : TreeP) : Prop := 1 ≤ t.dim ∧ t.dim ≤ 8 ∧ ∃ h s, Sub t 0 t.nodes.length h s ∧ s ≤ 64 ∧ h ≤ logI s

noncomputable def treeB (t : TreeP) : Bool := @decide (IsTree t) (Classical.propDecidable _)

theorem treeB_true {t : TreeP} : treeB t = true ↔ IsTree t := by unfold treeB; simp
theorem treeB_false {t : TreeP} : treeB t = false ↔ ¬ IsTree t := by unfold treeB; simp

theorem logI_le {n : Int} (h : n ≤ 64) : logI n ≤ 6 := by
  unfold logI
  have : n.toNat - 1 ≤ 63 := by omega
  generalize n.toNat - 1 = k at *
  have : ∀ k : Fin 64, Lib.bitLen k.val ≤ 6 := by decide
  exact this ⟨k, by omega⟩

theorem IsTree.len {t : TreeP} (h : IsTree t) : 1 ≤ t.nodes.length ∧ t.nodes.length ≤ 127 := by
  obtain ⟨_, _, g, s, q, h1, h2⟩ := h
  have := q.room; have := q.lt
  omega


/-- What a node of a tree that is no leaf must be. -/
theorem IsTree.inner {t : TreeP} (h : IsTree t) {i : Nat} {n : NodeP} (hn : t.nodes[i]? = some n) (hl : leafB n = false) :
    ∃ m e a b x y, n.left = (i : Int) + 1 ∧ cutB n.coef n.at_ t.dim = true ∧ Sub t (i + 1) m a x ∧ n.right = (m : Int) ∧ Sub t m e b y ∧ n.size = x + y ∧ ∀ r, t.nodes[0]? = some r → x ≤ r.size ∧ y ≤ r.size := by
  obtain ⟨_, _, g, s, q, h1, h2⟩ := h
  obtain ⟨e', h', s', q', g1, g2, g3⟩ := q.parts i (by omega) (List.getElem?_eq_some_iff.1 hn).1
  rcases q'.inv hn with ⟨hl', _⟩ | ⟨m, a, b, x, y, k1, k2, k3, k4, k5, k6, k7, k8⟩
  · rw [hl] at hl'; cases hl'
  · refine ⟨m, e', a, b, x, y, k1, k2, k3, k4, k5, k6, fun r hr => ?_⟩
    have := k3.pos; have := k5.pos
    obtain ⟨r', hr', hs⟩ := q.at_
    rw [hr] at hr'
    injection hr' with hr'
    subst hr'
    omega

theorem IsTree.root {t : TreeP} (h : IsTree t) {r : NodeP} (hr : t.nodes[0]? = some r) : 1 ≤ r.size ∧ r.size ≤ 64 := by
  obtain ⟨_, _, g, s, q, h1, h2⟩ := h
  obtain ⟨r', hr', hs⟩ := q.at_
  rw [hr] at hr'
  injection hr' with hr'
  subst hr'
  have := q.pos
  omega

theorem isTree_of {t : TreeP} {e h : Nat} {s : Int} {r : NodeP} (d1 : 1 ≤ t.dim) (d2 : t.dim ≤ 8) (hr : t.nodes[0]? = some r) (hs : r.size ≤ 64) (q : Sub t 0 e h s) :
    IsTree t ↔ e = t.nodes.length ∧ h ≤ logI r.size := by
  obtain ⟨r', hr', hs'⟩ := q.at_
  rw [hr] at hr'
  injection hr' with hr'
  subst hr'
  constructor
  · rintro ⟨_, _, g, s', q', h1, h2⟩
    obtain ⟨rfl, rfl, rfl⟩ := q.same q'
    exact ⟨rfl, by rw [hs']; exact h2⟩
  · rintro ⟨rfl, h2⟩
    exact ⟨d1, d2, h, s, q, by omega, by rw [← hs']; exact h2⟩

/-- The node that a vector comes to is on the left. -/
def leftB (n : NodeP) (x : List Int) : Bool := decide (dotI n.coef x < n.at_)

/-- The nodes on the way of a vector. -/
def wayT (t : TreeP) (x : List Int) : Nat → Nat → List Nat
  | 0, i => [i]
  | f + 1, i => match t.nodes[i]? with
    | none => [i]
    | some n => if n.left = 0 then [i] else i :: wayT t x f (if leftB n x then i + 1 else n.right.toNat)

theorem wayT_leaf {t : TreeP} {x : List Int} {i : Nat} {n : NodeP} (hn : t.nodes[i]? = some n) (hl : n.left = 0) (f : Nat) : wayT t x f i = [i] := by
  cases f with
  | zero => rfl
  | succ f => simp [wayT, hn, hl]

theorem wayT_node {t : TreeP} {x : List Int} {i : Nat} {n : NodeP} (hn : t.nodes[i]? = some n) (hl : ¬ n.left = 0) (f : Nat) :
    wayT t x (f + 1) i = i :: wayT t x f (if leftB n x then i + 1 else n.right.toNat) := by
  simp [wayT, hn, hl]

theorem wayT_ne (t : TreeP) (x : List Int) (f i : Nat) : wayT t x f i ≠ [] := by
  cases f with
  | zero => simp [wayT]
  | succ f =>
    rw [wayT]
    split
    · simp
    · split <;> simp

theorem Sub.way {t : TreeP} {i e h : Nat} {s : Int} (q : Sub t i e h s) (x : List Int) : ∀ f, h ≤ f → wayT t x f i = wayT t x h i ∧ (wayT t x h i).length ≤ h + 1 := by
  induction q with
  | leaf hn hl =>
    intro f hf
    rw [wayT_leaf hn (leafB_is hl).1, wayT_leaf hn (leafB_is hl).1]
    simp
  | @node i m e a b x' y n hn hl hc q1 hr q2 hs ih1 ih2 =>
    intro f hf
    obtain ⟨f, rfl⟩ : ∃ g, f = g + 1 := ⟨f - 1, by omega⟩
    have hl0 : ¬ n.left = 0 := by omega
    have hmt : n.right.toNat = m := by omega
    rw [Nat.add_comm 1 (max a b), wayT_node hn hl0, wayT_node hn hl0, hmt]
    have i1 := ih1 f (by omega); have i2 := ih1 (max a b) (by omega)
    have j1 := ih2 f (by omega); have j2 := ih2 (max a b) (by omega)
    split
    · rw [i1.1, i2.1]
      refine ⟨rfl, ?_⟩
      simp only [List.length_cons]
      omega
    · rw [j1.1, j2.1]
      refine ⟨rfl, ?_⟩
      simp only [List.length_cons]
      omega

/-- The last node on a way is a leaf. -/
theorem Sub.wayLeaf {t : TreeP} {i e h : Nat} {s : Int} (q : Sub t i e h s) (x : List Int) : ∃ j n, (wayT t x h i).getLast? = some j ∧ i ≤ j ∧ j < e ∧ t.nodes[j]? = some n ∧ leafB n = true := by
  induction q with
  | @leaf i n hn hl =>
    rw [wayT_leaf hn (leafB_is hl).1]
    exact ⟨i, n, rfl, by omega, by omega, hn, hl⟩
  | @node i m e a b x' y n hn hl hc q1 hr q2 hs ih1 ih2 =>
    have hl0 : ¬ n.left = 0 := by omega
    have hmt : n.right.toNat = m := by omega
    have l1 := q1.lt; have l2 := q2.lt
    rw [Nat.add_comm 1 (max a b), wayT_node hn hl0, hmt]
    obtain ⟨j1, n1, g1, g2, g3, g4, g5⟩ := ih1
    obtain ⟨j2, n2, k1, k2, k3, k4, k5⟩ := ih2
    split
    · rw [(q1.way x (max a b) (by omega)).1]
      refine ⟨j1, n1, ?_, by omega, by omega, g4, g5⟩
      rw [List.getLast?_cons, g1]
      rfl
    · rw [(q2.way x (max a b) (by omega)).1]
      refine ⟨j2, n2, ?_, by omega, by omega, k4, k5⟩
      rw [List.getLast?_cons, k1]
      rfl

/-- The nodes of a part, no deeper than a bound; each leaf is small. -/
inductive SubD (t : TreeP) : Nat → Nat → Nat → Int → Prop
  | leaf {d i : Nat} {n : NodeP} : t.nodes[i]? = some n → leafB n = true → n.size ≤ 64 → SubD t (d + 1) i (i + 1) n.size
  | node {d i m e : Nat} {x y : Int} {n : NodeP} : t.nodes[i]? = some n → n.left = (i : Int) + 1 → cutB n.coef n.at_ t.dim = true → SubD t d (i + 1) m x → n.right = (m : Int) → SubD t d m e y →
      n.size = x + y → SubD t (d + 1) i e n.size

theorem SubD.sub {t : TreeP} {d i e : Nat} {s : Int} (q : SubD t d i e s) : ∃ h, h < d ∧ Sub t i e h s := by
  induction q with
  | leaf hn hl _ => exact ⟨0, by omega, .leaf hn hl⟩
  | node hn hl hc _ hr _ hs ih1 ih2 =>
    obtain ⟨a, ha, q1⟩ := ih1
    obtain ⟨b, hb, q2⟩ := ih2
    exact ⟨1 + max a b, by omega, .node hn hl hc q1 hr q2 hs⟩

theorem Sub.subD {t : TreeP} {i e h : Nat} {s : Int} (q : Sub t i e h s) (hs : s ≤ 64) : ∀ d, h < d → SubD t d i e s := by
  induction q with
  | leaf hn hl =>
    intro d hd
    obtain ⟨d, rfl⟩ : ∃ k, d = k + 1 := ⟨d - 1, by omega⟩
    exact .leaf hn hl hs
  | node hn hl hc q1 hr q2 hs' ih1 ih2 =>
    intro d hd
    obtain ⟨d, rfl⟩ : ∃ k, d = k + 1 := ⟨d - 1, by omega⟩
    have := q1.pos; have := q2.pos
    exact .node hn hl hc (ih1 (by omega) d (by omega)) hr (ih2 (by omega) d (by omega)) hs'

theorem SubD.bd {t : TreeP} {d i e : Nat} {s : Int} (q : SubD t d i e s) : 1 ≤ s ∧ s ≤ 64 * (2 : Int) ^ d := by
  induction q with
  | @leaf d i n hn hl h64 =>
    have := (leafB_is hl).2.2.2.2
    have : (1 : Int) ≤ 2 ^ (d + 1) := by have := Nat.two_pow_pos (d + 1); exact_mod_cast this
    omega
  | @node d i m e x y n hn hl hc _ hr _ hs ih1 ih2 =>
    rw [Int.pow_succ]
    omega

theorem SubD.small {t : TreeP} {d i e : Nat} {s : Int} (q : SubD t d i e s) (hd : d ≤ 6) : 1 ≤ s ∧ s ≤ 4096 := by
  have h := q.bd
  have h2 := Nat.pow_le_pow_right (show 0 < 2 by omega) hd
  have h3 : ((2 ^ d : Nat) : Int) ≤ 64 := by omega
  rw [Int.natCast_pow] at h3
  have h4 : ((2 : Nat) : Int) = 2 := rfl
  rw [h4] at h3
  omega

theorem SubD.at_ {t : TreeP} {d i e : Nat} {s : Int} (q : SubD t d i e s) : ∃ n, t.nodes[i]? = some n ∧ n.size = s := by
  obtain ⟨_, _, q⟩ := q.sub
  exact q.at_

theorem SubD.same {t : TreeP} {d i e e' : Nat} {s s' : Int} (q : SubD t d i e s) (q' : SubD t d i e' s') : e = e' ∧ s = s' := by
  obtain ⟨_, _, q⟩ := q.sub
  obtain ⟨_, _, q'⟩ := q'.sub
  obtain ⟨h1, _, h3⟩ := q.same q'
  exact ⟨h1, h3⟩

open Classical in
/-- Where a part ends (-1: it is none). -/
noncomputable def endV (t : TreeP) (d i : Nat) : Int := if h : ∃ e s, SubD t d i e s then ((Classical.choose h : Nat) : Int) else -1

theorem endV_yes {t : TreeP} {d i e : Nat} {s : Int} (q : SubD t d i e s) : endV t d i = e := by
  have h : ∃ e s, SubD t d i e s := ⟨e, s, q⟩
  unfold endV
  rw [dif_pos h]
  obtain ⟨s', q'⟩ := Classical.choose_spec h
  exact congrArg _ (q'.same q).1

theorem endV_no {t : TreeP} {d i : Nat} (q : ∀ e s, ¬ SubD t d i e s) : endV t d i = -1 := by
  unfold endV
  rw [dif_neg (fun ⟨e, s, h⟩ => q e s h)]

/-- What a node that begins a part must be. -/
theorem SubD.inv {t : TreeP} {d i e : Nat} {s : Int} {n : NodeP} (q : SubD t (d + 1) i e s) (hn : t.nodes[i]? = some n) : (leafB n = true ∧ n.size ≤ 64 ∧ e = i + 1) ∨
    ∃ m x y, n.left = (i : Int) + 1 ∧ cutB n.coef n.at_ t.dim = true ∧ SubD t d (i + 1) m x ∧ n.right = (m : Int) ∧ SubD t d m e y ∧ n.size = x + y := by
  cases q with
  | leaf hn' hl h64 =>
    rw [hn] at hn'
    injection hn' with hn'
    subst hn'
    exact .inl ⟨hl, h64, rfl⟩
  | @node _ _ m _ x y _ hn' hl hc q1 hr q2 hs =>
    rw [hn] at hn'
    injection hn' with hn'
    subst hn'
    exact .inr ⟨m, x, y, hl, hc, q1, hr, q2, hs⟩

theorem isTree_end {t : TreeP} {r : NodeP} (d1 : 1 ≤ t.dim) (d2 : t.dim ≤ 8) (hr : t.nodes[0]? = some r) (hs : r.size ≤ 64) :
    IsTree t ↔ endV t (logI r.size + 1) 0 = (t.nodes.length : Int) := by
  constructor
  · rintro ⟨_, _, h, s, q, h1, h2⟩
    obtain ⟨r', hr', hs'⟩ := q.at_
    rw [hr] at hr'
    injection hr' with hr'
    subst hr'
    exact endV_yes (q.subD h1 _ (by rw [hs']; omega))
  · intro h
    by_cases hq : ∃ e s, SubD t (logI r.size + 1) 0 e s
    · obtain ⟨e, s, q⟩ := hq
      rw [endV_yes q] at h
      obtain ⟨g, hg, q⟩ := q.sub
      obtain ⟨r', hr', hs'⟩ := q.at_
      rw [hr] at hr'
      injection hr' with hr'
      subst hr'
      have : e = t.nodes.length := by omega
      subst this
      exact ⟨d1, d2, g, s, q, by omega, by rw [← hs']; omega⟩
    · rw [endV_no (fun e s q => hq ⟨e, s, q⟩)] at h
      omega
end Go.Proofs.Ytjmjnkilgoelbaa
