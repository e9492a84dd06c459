/-
  Walk of copseref02.Fits: digits as a wide number.
-/
import Derived.Test.YticpmcghdoiceaaRefWide
namespace Go.Proofs.Yticpmcghdoiceaa
open Go.RowKit

def fitW (n : Nat) : Nat := if n < T128 then n else 0
def fitX (n : Nat) : Int := if n < T128 then 0 else 10

theorem fit_hi {l : List Int} {k : Nat} {x : Int} (hx : l[k]? = some x) : bv (l.drop k) = x.toNat + 65536 * bv (l.drop (k + 1)) := by
  have hk : k < l.length := (List.getElem?_eq_some_iff.1 hx).1
  rw [List.drop_eq_getElem_cons hk]
  rw [List.getElem?_eq_getElem hk] at hx
  rw [Option.some.inj hx]; rfl

theorem fit_lo {l : List Int} {k : Nat} {x : Int} (hx : l[k]? = some x) (hk : k < 4) : bv ((l.take 4).drop k) = x.toNat + 65536 * bv ((l.take 4).drop (k + 1)) :=
  fit_hi (l := l.take 4) (by rw [List.getElem?_take, if_pos hk]; exact hx)

theorem bv_four {l : List Int} (h : Dig l) (hl : l.length ≤ 4) : bv l < 18446744073709551616 := by
  have := bv_lt h
  exact Nat.lt_of_lt_of_le this (Nat.le_trans (Nat.pow_le_pow_right (by omega) hl) (by decide))
theorem bv_three {l : List Int} (h : Dig l) (hl : l.length ≤ 3) : bv l < 281474976710656 := by
  have := bv_lt h
  exact Nat.lt_of_lt_of_le this (Nat.le_trans (Nat.pow_le_pow_right (by omega) hl) (by decide))

theorem dig_drop {l : List Int} (h : Dig l) (k : Nat) : Dig (l.drop k) := fun d hd => h d (List.mem_of_mem_drop hd)

theorem fit_all {l : List Int} : bv l = bv (l.drop 4) * 18446744073709551616 + bv (l.take 4) := by
  have h1 := bv_append (l.take 4) (l.drop 4)
  rw [List.take_append_drop] at h1
  by_cases h4 : 4 ≤ l.length
  · have h2 : (l.take 4).length = 4 := by simp; omega
    rw [h2] at h1
    rw [h1]
    omega
  · rw [List.drop_of_length_le (by omega), List.take_of_length_le (by omega)]
    simp [bv]

set_option maxRecDepth 100000 in
set_option maxHeartbeats 2000000 in
theorem rFits_any (v : Value) (n : Nat) (w : World) (h : Ints .i64 w v (digs n)) :
    Calls Try.prog 72 #[v] w fun e w' => e = .returned (.tuple #[WV (fitW n), .int .i64 (fitX n)]) ∧ Below w.heap.size w w' := by
  have hpow := digs_lt_pow n
  by_cases hbig : (8 : Int) < (digs n).length
  · have hn : ¬ n < T128 := fun hc => by have := digs_128 hc; omega
    rw [fitW, fitX, if_neg hn, if_neg hn]
    obtain ⟨ad, c, rfl⟩ := h.shape
    generalize (digs n).length = L at *
    clear h hn hpow
    go_enter Try.func72, Try.ntmps72
    go_wp2
    refine bodyPost_ret (v := .tuple #[.agg #[.int .u64 0, .int .u64 0], .int .i64 10]) (by simp [results, Try.results72, go_sem]) rfl ⟨rfl, ?_⟩
    (repeat (first | with_reducible exact Below.refl _ _ | ((with_reducible refine Below.setCell ?_ ?_ _); rotate_left; (focus (first | omega | (simp; done) | (simp; omega)))) | ((with_reducible refine Below.alloc ?_ ?_ _); rotate_left; (focus (first | omega | (simp; done) | (simp; omega)))) | (with_reducible refine Below.drew ?_) | (with_reducible refine below_drewN ?_ _)))
  · have hn : n < T128 := by
      unfold T128
      exact Nat.lt_of_lt_of_le hpow (Nat.le_trans (Nat.pow_le_pow_right (by omega) (show (digs n).length ≤ 8 by omega)) (by decide))
    rw [fitW, fitX, if_pos hn, if_pos hn]
    have hd := digs_dig n
    have hbv := bv_digs n
    obtain ⟨l, hl⟩ : ∃ l, digs n = l := ⟨_, rfl⟩
    rw [hl] at h hd hbv hbig
    have hfa := fit_all (l := l)
    rw [hbv] at hfa
    have e1 := wv_of (n := n) (bv (l.drop 4)) (bv (l.take 4)) (bv_four (dig_take hd 4) (by simp; omega)) hfa
    have HI := Lib.hid h; have HDG := Lib.hid hd; have HE := Lib.hid e1
    obtain ⟨ad, c, rfl⟩ := h.shape
    have hl8 : l.length ≤ 8 := by omega
    clear h hd hbv hfa e1 hl hpow hn
    go_enter Try.func72, Try.ntmps72
    go_wp2
    go_loopw [5] (fun i wr => ∃ k : Nat, i = .int .i64 ((k : Int) - 1) ∧ k ≤ l.length ∧ wr.cell? ⟨w.heap.size + 1, 0, none⟩ = some (.int .u64 (bv (l.drop (max k 4)) : Int)) ∧ wr.cell? ⟨w.heap.size + 1, 1, none⟩ = some (.int .u64 (bv ((l.take 4).drop k) : Int)) ∧ wr.frozen? ⟨w.heap.size + 1, 0, none⟩ = false ∧ wr.frozen? ⟨w.heap.size + 1, 1, none⟩ = false ∧ w.heap.size + 1 < wr.heap.size ∧ Below (w.heap.size + 1) (w.alloc (.cells #[.int .u64 0, .int .u64 0] 24)) wr) (fun i _ => (intOf i + 1).toNat)
    case atStart =>
      refine ⟨l.length, rfl, Nat.le_refl _, ?_, ?_, by simp, by simp, by simp, by (repeat (first | with_reducible exact Below.refl _ _ | ((with_reducible refine Below.setCell ?_ ?_ _); rotate_left; (focus (first | omega | (simp; done) | (simp; omega)))) | ((with_reducible refine Below.alloc ?_ ?_ _); rotate_left; (focus (first | omega | (simp; done) | (simp; omega)))) | (with_reducible refine Below.drew ?_) | (with_reducible refine below_drewN ?_ _)))⟩
      · rw [List.drop_of_length_le (by omega)]; simp [bv]
      · rw [List.drop_of_length_le (by simp; omega)]; simp [bv]
    case round =>
      obtain ⟨k, rfl, hk, c0, c1, f0, f1, hsz, hb⟩ := hrel
      have HB := Lib.hid hb
      clear hb
      rcases k with _ | k
      · rw [show (((0 : Nat) : Int) - 1) = -1 by rfl]
        rw [Nat.max_eq_right (by omega)] at c0
        rw [List.drop_zero] at c1
        have hB := HB.out
        have d0 := hB.cell (p := ⟨w.heap.size, 0, none⟩) (by simp)
        have d1 := hB.cell (p := ⟨w.heap.size, 1, none⟩) (by simp)
        have g0 := hB.frozen (p := ⟨w.heap.size, 0, none⟩) (by simp)
        have g1 := hB.frozen (p := ⟨w.heap.size, 1, none⟩) (by simp)
        have BW : Hid (Below w.heap.size w wr) := Lib.hid (below_tr (by (repeat (first | with_reducible exact Below.refl _ _ | ((with_reducible refine Below.setCell ?_ ?_ _); rotate_left; (focus (first | omega | (simp; done) | (simp; omega)))) | ((with_reducible refine Below.alloc ?_ ?_ _); rotate_left; (focus (first | omega | (simp; done) | (simp; omega)))) | (with_reducible refine Below.drew ?_) | (with_reducible refine below_drewN ?_ _)))) (hB.mono (by omega)))
        clear hB
        go_wp2
        refine bodyPost_ret (v := .tuple #[.agg #[.int .u64 (bv (l.drop 4)), .int .u64 (bv (l.take 4))], .int .i64 0]) (by simp [results, Try.results72, go_sem, *]) rfl ⟨by rw [HE.out], ?_⟩
        (repeat (first | with_reducible exact Below.refl _ _ | ((with_reducible refine Below.setCell ?_ ?_ _); rotate_left; (focus (first | omega | (simp; done) | (simp; omega)))) | ((with_reducible refine Below.alloc ?_ ?_ _); rotate_left; (focus (first | omega | (simp; done) | (simp; omega)))) | (with_reducible refine Below.drew ?_) | (with_reducible refine below_drewN ?_ _) | ((with_reducible refine Below.trans ?_ (Below.mono BW.out ?_)); rotate_left; (focus (first | omega | (simp; done) | (simp; omega))))))
      · rw [show (((k + 1 : Nat) : Int) - 1) = (k : Int) by omega]
        obtain ⟨x, hx⟩ := getElem?_ex (l := l) (k := k) (by omega)
        have hxd := HDG.out x (List.mem_of_getElem? hx)
        have hI := (HI.out.below (w' := w.alloc (.cells #[.int .u64 0, .int .u64 0] 24)) (by (repeat (first | with_reducible exact Below.refl _ _ | ((with_reducible refine Below.setCell ?_ ?_ _); rotate_left; (focus (first | omega | (simp; done) | (simp; omega)))) | ((with_reducible refine Below.alloc ?_ ?_ _); rotate_left; (focus (first | omega | (simp; done) | (simp; omega)))) | (with_reducible refine Below.drew ?_) | (with_reducible refine below_drewN ?_ _))))).below (HB.out.mono (by simp))
        obtain ⟨b, o, rfl, hcell, hblt⟩ : ∃ b o, ad = some ⟨b, o, none⟩ ∧ wr.cell? ⟨b, o + k, none⟩ = some (.int .i64 x) ∧ b < w.heap.size + 1 := by
          obtain ⟨_, _, e0, _, _, _, h4⟩ := HI.out
          obtain ⟨_, _, e0', _, _, _, h4'⟩ := hI
          obtain ⟨b, o, e1, hlt, _⟩ := h4 k x hx
          obtain ⟨b', o', e1', _, hc'⟩ := h4' k x hx
          injection e0 with e0 _ _
          injection e0' with e0' _ _
          subst e0 e0'
          rw [e1] at e1'
          injection e1' with e1'
          injection e1' with e2 e3
          subst e2 e3
          exact ⟨b, o, e1, hc', by omega⟩
        clear hI
        have hbne : b ≠ w.heap.size + 1 := by omega
        by_cases h4 : 4 ≤ k
        · have eh := fit_hi hx
          have m1 : max (k + 1) 4 = k + 1 := by omega
          have m2 : max k 4 = k := by omega
          have el : (l.take 4).drop (k + 1) = (l.take 4).drop k := by rw [List.drop_of_length_le (by simp; omega), List.drop_of_length_le (by simp; omega)]
          rw [m1] at c0
          rw [el] at c1
          have hlt := bv_three (dig_drop HDG.out (k + 1)) (by simp; omega)
          obtain ⟨y, rfl⟩ := Int.eq_ofNat_of_zero_le hxd.1
          have EH := Lib.hid eh; have M2 := Lib.hid m2
          generalize bv (l.drop (k + 1)) = H at *
          have h4' : (4 : Int) ≤ k := by omega
          clear eh m1 m2 el hx
          go_wp2
          go_region
          all_goals
            go_wp2
            go_roundw
            case rel => exact ⟨k, by go_num, by omega, by rw [M2.out, EH.out]; go_simp; omega, by go_simp, by go_simp, by go_simp, by simpa using hsz, by (repeat (first | with_reducible exact Below.refl _ _ | ((with_reducible refine Below.setCell ?_ ?_ _); rotate_left; (focus (first | omega | (simp; done) | (simp; omega)))) | ((with_reducible refine Below.alloc ?_ ?_ _); rotate_left; (focus (first | omega | (simp; done) | (simp; omega)))) | (with_reducible refine Below.drew ?_) | (with_reducible refine below_drewN ?_ _) | ((with_reducible refine Below.trans ?_ (Below.mono HB.out ?_)); rotate_left; (focus (first | omega | (simp; done) | (simp; omega))))))⟩
            case measure => simp [intOf] <;> omega
        · have eh := fit_lo hx (by omega)
          have m1 : max (k + 1) 4 = 4 := by omega
          have m2 : max k 4 = 4 := by omega
          rw [m1] at c0
          have hlt := bv_three (dig_drop (dig_take HDG.out 4) (k + 1)) (by simp; omega)
          obtain ⟨y, rfl⟩ := Int.eq_ofNat_of_zero_le hxd.1
          have EH := Lib.hid eh; have M2 := Lib.hid m2
          generalize bv ((l.take 4).drop (k + 1)) = H at *
          have h4' : ¬ (4 : Int) ≤ k := by omega
          clear eh m1 m2 hx
          go_wp2
          go_region
          all_goals
            go_wp2
            go_roundw
            case rel => exact ⟨k, by go_num, by omega, by rw [M2.out]; go_simp, by rw [EH.out]; go_simp; omega, by go_simp, by go_simp, by simpa using hsz, by (repeat (first | with_reducible exact Below.refl _ _ | ((with_reducible refine Below.setCell ?_ ?_ _); rotate_left; (focus (first | omega | (simp; done) | (simp; omega)))) | ((with_reducible refine Below.alloc ?_ ?_ _); rotate_left; (focus (first | omega | (simp; done) | (simp; omega)))) | (with_reducible refine Below.drew ?_) | (with_reducible refine below_drewN ?_ _) | ((with_reducible refine Below.trans ?_ (Below.mono HB.out ?_)); rotate_left; (focus (first | omega | (simp; done) | (simp; omega))))))⟩
            case measure => simp [intOf] <;> omega
end Go.Proofs.Yticpmcghdoiceaa
