/-
  Walk of wide.Text.
-/
import Derived.Test.YticpmcghdoiceaaWideD
import Derived.Test.YticpmcghdoiceaaBuilder
namespace Go.Proofs.Yticpmcghdoiceaa
open Go.RowKit

def ten19 : Nat := 10000000000000000000

/-- The decimal digits of a number, nineteen at a time, with fuel. -/
def textF : Nat → Nat → List Int
  | 0, n => (wordL 20 n 1).reverse
  | f + 1, n => if n < 10000000000000000000 then (wordL 20 n 1).reverse else textF f (n / 10000000000000000000) ++ (wordL 20 (n % 10000000000000000000) 19).reverse

def revcat : List (List Int) → List Int
  | [] => []
  | p :: ps => revcat ps ++ p

theorem revcat_snoc (ps : List (List Int)) (p : List Int) : revcat (ps ++ [p]) = p ++ revcat ps := by
  induction ps with
  | nil => simp [revcat]
  | cons q ps ih => simp [revcat, ih]

/-- The strings of lists of bytes. -/
def strs (ps : List (List Int)) : List Value := ps.map fun p => .string (strOfNums p)

theorem eiStr : EI Try.prog 9 (.string ⟨#[]⟩) 1 16 := .of (by kernel_rfl) rfl (by decide) (by decide)

theorem strs_snoc {ps : List (List Int)} {p : List Int} {w : World} {base : Nat} {v : Value} (h : w.ownsRow base 9 1 v (ps.length + 1) (strs ps ++ (#[Value.string (strOfNums p)] : Array Value).toList)) : w.ownsRow base 9 1 v (ps ++ [p]).length (strs (ps ++ [p])) := by
  simpa [strs] using h

theorem own_shape {w : World} {base e : Nat} {v : Value} {n : Nat} {xs : List Value} (h : w.ownsRow base e 1 v n xs) : ∃ a c, v = .slice a n c ∧ n ≤ c ∧ c ≤ 9223372036854775807 := by
  rcases h.2 with ⟨rfl, h0⟩ | ⟨g, cap, cur, rfl, _, _, h1, h2, _⟩
  · exact ⟨none, 0, by rw [h0], by omega, by omega⟩
  · exact ⟨_, _, rfl, h1, by simpa [maxLen] using h2⟩

theorem own_some {w : World} {base e n c : Nat} {a : Option Addr} {xs : List Value} (h : w.ownsRow base e 1 (.slice a n c) n xs) (h0 : 0 < n) : ∃ g, a = some ⟨g, 0, none⟩ := by
  rcases h.2 with ⟨h1, h2⟩ | ⟨g, cap, cur, h1, _⟩
  · omega
  · simp only [Value.slice.injEq] at h1; exact ⟨g, h1.1⟩

theorem strCells_app (a b : List Int) : Lib.strCells (strOfNums a) ++ Lib.strCells (strOfNums b) = Lib.strCells (strOfNums (a ++ b)) := by
  simp [Lib.strCells, strOfNums]

theorem strCells_nil : Lib.strCells (strOfNums []) = [] := rfl

theorem revcat_take {ps : List (List Int)} {k : Nat} {p : List Int} (h : ps[k]? = some p) : revcat (ps.take (k + 1)) = p ++ revcat (ps.take k) := by
  rw [List.take_add_one, h]
  exact revcat_snoc _ _

theorem word_bd {n r : Nat} : (wordL 20 n r).reverse.length ≤ 20 := by rw [List.length_reverse]; exact wordL_len 20 n r

set_option maxRecDepth 100000 in
set_option maxHeartbeats 4000000 in
theorem wText_any (n : Nat) (w : World) (hn : n < T128) :
    Calls Try.prog 23 #[WV n] w fun e w' => e = .returned (.string (strOfNums (textF 3 n))) ∧ Below w.heap.size w w' := by
  have hD := fun m W (hm : m < T128) => wDiv_any m 10000000000000000000 W hm (by omega) (by omega)
  have hW1 := fun (m : Nat) W (hm : m < 10000000000000000000) => word_any m 19 W (by omega) (by omega) (by omega) (by omega)
  have hW2 := fun (m : Nat) W (hm : m < 10000000000000000000) => word_any m 1 W (by omega) (by omega) (by omega) (by omega)
  obtain ⟨T, hT⟩ : ∃ T, textF 3 n = T := ⟨_, rfl⟩
  rw [hT]
  have HD := Lib.hid hD; have HW1 := Lib.hid hW1; have HW2 := Lib.hid hW2; have HT := Lib.hid hT; have HN := Lib.hid hn
  obtain ⟨h, l, h1, h2, e0, e1⟩ := wv_ex hn
  rw [e1]
  have E0 := Lib.hid e0
  clear hD hW1 hW2 hT hn e0 e1
  go_enter Try.func23, Try.ntmps23
  go_wp2_with fail
  go_loopw [3, 4, 5, 6] (fun v _ _ _ wr => ∃ (f m hi lo : Nat) (ps : List (List Int)), m = hi * 18446744073709551616 + lo ∧ (hi : Int) ≤ 18446744073709551615 ∧ (lo : Int) ≤ 18446744073709551615 ∧ m < 10000000000000000000 ^ (f + 1) ∧ ps.length + f = 3 ∧ (∀ p ∈ ps, p.length ≤ 20) ∧ textF f m ++ revcat ps = T ∧ wr.ownsRow (w.heap.size + 1) 9 1 v ps.length (strs ps) ∧
    wr.cell? ⟨w.heap.size, 0, none⟩ = some (.int .u64 hi) ∧ wr.cell? ⟨w.heap.size, 1, none⟩ = some (.int .u64 lo) ∧ wr.frozen? ⟨w.heap.size, 0, none⟩ = false ∧ wr.frozen? ⟨w.heap.size, 1, none⟩ = false ∧ w.heap.size < wr.heap.size ∧ Below w.heap.size w wr) (fun v _ _ _ _ => 3 - sliceLen v)
  case atStart =>
    refine ⟨3, n, h, l, [], E0.out, h1, h2, ?_, rfl, by simp, by simpa [revcat] using HT.out, World.ownsRow_nil _ _ _ _, by simp, by simp, by simp, by simp, by simp, by (repeat (first | with_reducible exact Below.refl _ _ | ((with_reducible refine Below.setCell ?_ ?_ _); rotate_left; (focus (first | omega | (simp; done) | (simp; omega)))) | ((with_reducible refine Below.alloc ?_ ?_ _); rotate_left; (focus (first | omega | (simp; done) | (simp; omega)))) | (with_reducible refine Below.drew ?_) | (with_reducible refine below_drewN ?_ _)))⟩
    have := HN.out
    unfold T128 at this
    exact Nat.lt_trans this (by decide)
  case round =>
    obtain ⟨f, m, hi, lo, ps, hm, b1, b2, hmf, hpf, hpl, ht, ho, c0, c1, f0, f1, hsz, hb⟩ := hrel
    have HM := Lib.hid hm; have HMF := Lib.hid hmf; have HPL := Lib.hid hpl; have HTT := Lib.hid ht; have HO := Lib.hid ho; have HB := Lib.hid hb
    obtain ⟨ad, c, hv, _, _⟩ : ∃ a c, u3 = .slice a ps.length c ∧ ps.length ≤ c ∧ c ≤ 9223372036854775807 := own_shape ho
    subst hv
    have hcase : (0 < hi ∨ 10000000000000000000 ≤ lo) ∨ (hi = 0 ∧ lo < 10000000000000000000) := by omega
    clear hm hmf hpl ht ho hb
    rcases hcase with hgo | ⟨rfl, hlo⟩
    · have hmt : m < T128 := by have := HM.out; unfold T128; omega
      have hge : 10000000000000000000 ≤ m := by have := HM.out; omega
      obtain ⟨f', rfl⟩ : ∃ f', f = f' + 1 := by
        refine ⟨f - 1, ?_⟩
        rcases Nat.eq_zero_or_pos f with hz | hz
        · subst hz; have := HMF.out; omega
        · omega
      have hd := fun W => HD.out m W hmt
      have em : WV m = .agg #[.int .u64 (hi : Int), .int .u64 (lo : Int)] := wv_of hi lo (by omega) HM.out
      have hq : m / 10000000000000000000 < T128 := Nat.lt_of_le_of_lt (Nat.div_le_self _ _) hmt
      have hrl : m % 10000000000000000000 < 10000000000000000000 := Nat.mod_lt _ (by decide)
      obtain ⟨qh, ql, k1, k2, k3, k4⟩ := wv_ex hq
      have ht2 : textF f' (m / 10000000000000000000) ++ revcat (ps ++ [(wordL 20 (m % 10000000000000000000) 19).reverse]) = T := by
        have := HTT.out
        rw [textF, if_neg (by omega)] at this
        rw [revcat_snoc, ← List.append_assoc]; exact this
      have hqf : m / 10000000000000000000 < 10000000000000000000 ^ (f' + 1) := by
        have := HMF.out
        rw [Nat.pow_succ] at this
        exact Nat.div_lt_of_lt_mul (by rw [Nat.mul_comm]; exact this)
      rw [em, k4] at hd
      obtain ⟨q, hqq⟩ : ∃ q, m / 10000000000000000000 = q := ⟨_, rfl⟩
      obtain ⟨r, hrr⟩ : ∃ r, m % 10000000000000000000 = r := ⟨_, rfl⟩
      rw [hqq] at k3 ht2 hqf
      rw [hrr] at hd ht2 hrl
      have hw := fun W => HW1.out r W hrl
      obtain ⟨P, hP⟩ : ∃ P, (wordL 20 r 19).reverse = P := ⟨_, rfl⟩
      have hPl : P.length ≤ 20 := by rw [← hP]; exact word_bd
      rw [hP] at hw ht2
      have HDD := Lib.hid hd; have HW := Lib.hid hw; have HT2 := Lib.hid ht2; have HQF := Lib.hid hqf; have K3 := Lib.hid k3; have HPP := Lib.hid hPl
      have hcases : 0 < (hi : Int) ∨ (¬ 0 < (hi : Int) ∧ (10000000000000000000 : Int) ≤ lo) := by omega
      clear hd em hq hrl k3 k4 ht2 hqf hqq hrr hw hP hPl hmt hge hgo
      rcases hcases with hgo | ⟨hgo, hgo2⟩
      · go_wp2_with fail
        refine (HDD.out _).mono ?_
        rintro e w1 ⟨rfl, hb1⟩
        have c0_0 := hb1.cell (p := ⟨w.heap.size, 0, none⟩) (by first | omega | (simp <;> omega)); have f0_0 := hb1.frozen (p := ⟨w.heap.size, 0, none⟩) (by first | omega | (simp <;> omega)); have c0_1 := hb1.cell (p := ⟨w.heap.size, 1, none⟩) (by first | omega | (simp <;> omega)); have f0_1 := hb1.frozen (p := ⟨w.heap.size, 1, none⟩) (by first | omega | (simp <;> omega))
        have hz1 : w.heap.size < w1.heap.size := by have := hb1.size; omega
        have hz2 : w.heap.size ≠ w1.heap.size := by omega
        have hz3 : w1.heap.size ≠ w.heap.size := by omega
        have HO1 := Lib.hid (own_keep HO.out fun g _ h => hb1.block g h)
        have BB1 := Lib.hid (HB.out.trans (hb1.mono HB.out.size))
        have hsz1 := hb1.size
        clear hb1
        go_wp2_with fail
        refine (HW.out _).mono ?_
        rintro e w2 ⟨rfl, hb2⟩
        have hsz2 : w1.heap.size + 1 ≤ w2.heap.size := by have := hb2.size; simp at this; omega
        have c2 := hb2.cell (p := ⟨w.heap.size, 0, none⟩) (by simp; omega); have c3 := hb2.cell (p := ⟨w.heap.size, 1, none⟩) (by simp; omega)
        have c4 := hb2.cell (p := ⟨w1.heap.size, 0, none⟩) (by simp); have c5 := hb2.cell (p := ⟨w1.heap.size, 1, none⟩) (by simp)
        have f2 := hb2.frozen (p := ⟨w.heap.size, 0, none⟩) (by simp; omega); have f3 := hb2.frozen (p := ⟨w.heap.size, 1, none⟩) (by simp; omega)
        have HO2 := Lib.hid (own_keep (w' := w2) HO1.out fun g _ h => (hb2.block g (by simp; omega)).trans (Below.heap_alloc _ _ _ h))
        have BB2 := Lib.hid (show Below w.heap.size w w2 from below_tr (by (repeat (first | with_reducible exact Below.refl _ _ | ((with_reducible refine Below.setCell ?_ ?_ _); rotate_left; (focus (first | omega | (simp; done) | (simp; omega)))) | ((with_reducible refine Below.alloc ?_ ?_ _); rotate_left; (focus (first | omega | (simp; done) | (simp; omega)))) | (with_reducible refine Below.drew ?_) | (with_reducible refine below_drewN ?_ _) | ((with_reducible refine Below.trans ?_ (Below.mono BB1.out ?_)); rotate_left; (focus (first | omega | (simp; done) | (simp; omega))))))) (hb2.mono (by simp; omega)))
        clear hb2
        go_wp2_with (at_builtin; go_must (refine app1 rfl _ _ 87 rfl Try.underlying87 eiStr (w.heap.size + 1) (by rfl) HO2.out (by rfl) rfl (by simp [Value.oneCell']) (by omega) (by omega) ?_))
        intro v3 w3 ho3 hb3 hg3
        have hsz3 := hb3.size
        have c6 := hb3.cell (p := ⟨w.heap.size, 0, none⟩) (by simp); have c7 := hb3.cell (p := ⟨w.heap.size, 1, none⟩) (by simp)
        have f4 := hb3.frozen (p := ⟨w.heap.size, 0, none⟩) (by simp); have f5 := hb3.frozen (p := ⟨w.heap.size, 1, none⟩) (by simp)
        have hblk := hg3.block w1.heap.size (by omega) (fun e => by have := (HO1.out.lt _ e.symm).2; omega)
        have c8 : w3.cell? ⟨w1.heap.size, 0, none⟩ = w2.cell? ⟨w1.heap.size, 0, none⟩ := World.cell?_of_block hblk
        have c9 : w3.cell? ⟨w1.heap.size, 1, none⟩ = w2.cell? ⟨w1.heap.size, 1, none⟩ := World.cell?_of_block hblk
        have HO3 := Lib.hid (strs_snoc ho3)
        have BB3 := Lib.hid (BB2.out.trans (hb3.mono (by omega)))
        obtain ⟨ad3, c3', hv3, _, _⟩ := own_shape ho3
        subst hv3
        clear ho3 hb3 hg3 hblk
        go_wp2
        go_roundw
        case rel => exact ⟨f', q, qh, ql, ps ++ [P], K3.out, k1, k2, HQF.out, by simp; omega, fun p hp => by simp at hp; rcases hp with hp | rfl; exact HPL.out p hp; exact HPP.out, HT2.out, own_keep HO3.out (fun g h _ => by repeat (first | exact rfl | refine (Below.heap_setCell _ _ _ _ (by first | omega | (simp; omega))).trans ?_)), by go_simp, by go_simp, by go_simp, by go_simp, by simp; omega, by (repeat (first | with_reducible exact Below.refl _ _ | ((with_reducible refine Below.setCell ?_ ?_ _); rotate_left; (focus (first | omega | (simp; done) | (simp; omega)))) | ((with_reducible refine Below.alloc ?_ ?_ _); rotate_left; (focus (first | omega | (simp; done) | (simp; omega)))) | (with_reducible refine Below.drew ?_) | (with_reducible refine below_drewN ?_ _) | ((with_reducible refine Below.trans ?_ (Below.mono BB3.out ?_)); rotate_left; (focus (first | omega | (simp; done) | (simp; omega))))))⟩
        case measure => simp [sliceLen] <;> omega
      · obtain rfl : hi = 0 := by omega
        have hd0 := HDD.out
        rw [Int.natCast_zero] at hd0
        have HDD := Lib.hid hd0
        rw [Int.natCast_zero] at c0
        clear hd0
        go_wp2_with fail
        refine (HDD.out _).mono ?_
        rintro e w1 ⟨rfl, hb1⟩
        have c0_0 := hb1.cell (p := ⟨w.heap.size, 0, none⟩) (by first | omega | (simp <;> omega)); have f0_0 := hb1.frozen (p := ⟨w.heap.size, 0, none⟩) (by first | omega | (simp <;> omega)); have c0_1 := hb1.cell (p := ⟨w.heap.size, 1, none⟩) (by first | omega | (simp <;> omega)); have f0_1 := hb1.frozen (p := ⟨w.heap.size, 1, none⟩) (by first | omega | (simp <;> omega))
        have hz1 : w.heap.size < w1.heap.size := by have := hb1.size; omega
        have hz2 : w.heap.size ≠ w1.heap.size := by omega
        have hz3 : w1.heap.size ≠ w.heap.size := by omega
        have HO1 := Lib.hid (own_keep HO.out fun g _ h => hb1.block g h)
        have BB1 := Lib.hid (HB.out.trans (hb1.mono HB.out.size))
        have hsz1 := hb1.size
        clear hb1
        go_wp2_with fail
        refine (HW.out _).mono ?_
        rintro e w2 ⟨rfl, hb2⟩
        have hsz2 : w1.heap.size + 1 ≤ w2.heap.size := by have := hb2.size; simp at this; omega
        have c2 := hb2.cell (p := ⟨w.heap.size, 0, none⟩) (by simp; omega); have c3 := hb2.cell (p := ⟨w.heap.size, 1, none⟩) (by simp; omega)
        have c4 := hb2.cell (p := ⟨w1.heap.size, 0, none⟩) (by simp); have c5 := hb2.cell (p := ⟨w1.heap.size, 1, none⟩) (by simp)
        have f2 := hb2.frozen (p := ⟨w.heap.size, 0, none⟩) (by simp; omega); have f3 := hb2.frozen (p := ⟨w.heap.size, 1, none⟩) (by simp; omega)
        have HO2 := Lib.hid (own_keep (w' := w2) HO1.out fun g _ h => (hb2.block g (by simp; omega)).trans (Below.heap_alloc _ _ _ h))
        have BB2 := Lib.hid (show Below w.heap.size w w2 from below_tr (by (repeat (first | with_reducible exact Below.refl _ _ | ((with_reducible refine Below.setCell ?_ ?_ _); rotate_left; (focus (first | omega | (simp; done) | (simp; omega)))) | ((with_reducible refine Below.alloc ?_ ?_ _); rotate_left; (focus (first | omega | (simp; done) | (simp; omega)))) | (with_reducible refine Below.drew ?_) | (with_reducible refine below_drewN ?_ _) | ((with_reducible refine Below.trans ?_ (Below.mono BB1.out ?_)); rotate_left; (focus (first | omega | (simp; done) | (simp; omega))))))) (hb2.mono (by simp; omega)))
        clear hb2
        go_wp2_with (at_builtin; go_must (refine app1 rfl _ _ 87 rfl Try.underlying87 eiStr (w.heap.size + 1) (by rfl) HO2.out (by rfl) rfl (by simp [Value.oneCell']) (by omega) (by omega) ?_))
        intro v3 w3 ho3 hb3 hg3
        have hsz3 := hb3.size
        have c6 := hb3.cell (p := ⟨w.heap.size, 0, none⟩) (by simp); have c7 := hb3.cell (p := ⟨w.heap.size, 1, none⟩) (by simp)
        have f4 := hb3.frozen (p := ⟨w.heap.size, 0, none⟩) (by simp); have f5 := hb3.frozen (p := ⟨w.heap.size, 1, none⟩) (by simp)
        have hblk := hg3.block w1.heap.size (by omega) (fun e => by have := (HO1.out.lt _ e.symm).2; omega)
        have c8 : w3.cell? ⟨w1.heap.size, 0, none⟩ = w2.cell? ⟨w1.heap.size, 0, none⟩ := World.cell?_of_block hblk
        have c9 : w3.cell? ⟨w1.heap.size, 1, none⟩ = w2.cell? ⟨w1.heap.size, 1, none⟩ := World.cell?_of_block hblk
        have HO3 := Lib.hid (strs_snoc ho3)
        have BB3 := Lib.hid (BB2.out.trans (hb3.mono (by omega)))
        obtain ⟨ad3, c3', hv3, _, _⟩ := own_shape ho3
        subst hv3
        clear ho3 hb3 hg3 hblk
        go_wp2
        go_roundw
        case rel => exact ⟨f', q, qh, ql, ps ++ [P], K3.out, k1, k2, HQF.out, by simp; omega, fun p hp => by simp at hp; rcases hp with hp | rfl; exact HPL.out p hp; exact HPP.out, HT2.out, own_keep HO3.out (fun g h _ => by repeat (first | exact rfl | refine (Below.heap_setCell _ _ _ _ (by first | omega | (simp; omega))).trans ?_)), by go_simp, by go_simp, by go_simp, by go_simp, by simp; omega, by (repeat (first | with_reducible exact Below.refl _ _ | ((with_reducible refine Below.setCell ?_ ?_ _); rotate_left; (focus (first | omega | (simp; done) | (simp; omega)))) | ((with_reducible refine Below.alloc ?_ ?_ _); rotate_left; (focus (first | omega | (simp; done) | (simp; omega)))) | (with_reducible refine Below.drew ?_) | (with_reducible refine below_drewN ?_ _) | ((with_reducible refine Below.trans ?_ (Below.mono BB3.out ?_)); rotate_left; (focus (first | omega | (simp; done) | (simp; omega))))))⟩
        case measure => simp [sliceLen] <;> omega
    · have em : m = lo := by have := HM.out; omega
      subst em
      rw [Int.natCast_zero] at c0
      have hw := fun W => HW2.out m W hlo
      have ht3 : (wordL 20 m 1).reverse ++ revcat ps = T := by
        have := HTT.out
        cases f with
        | zero => simpa only [textF] using this
        | succ f => rw [textF, if_pos hlo] at this; exact this
      obtain ⟨P, hP⟩ : ∃ P, (wordL 20 m 1).reverse = P := ⟨_, rfl⟩
      have hPl : P.length ≤ 20 := by rw [← hP]; exact word_bd
      rw [hP] at hw ht3
      have HW := Lib.hid hw; have HT3 := Lib.hid ht3; have HPP := Lib.hid hPl
      have hlo2 : ¬ (10000000000000000000 : Int) ≤ m := by omega
      have hlo3 : ¬ (0 : Int) < 0 := by omega
      have HLO := Lib.hid hlo
      clear hw ht3 hP hPl hlo b1 HM HMF
      go_wp2_with fail
      refine (HW.out _).mono ?_
      rintro e w1 ⟨rfl, hb1⟩
      have B1 : Lib.IsBuilder 92 5 wr.heap.size wr.heap.size [] w1 := Or.inl ⟨Nat.le_refl _, .slice none 0 0, (hb1.block _ (by simp)).trans (heap_alloc_new wr _), World.ownsRow_nil _ _ _ _, by simp [Value.ownBlock]⟩
      have hsz1 : wr.heap.size + 1 ≤ w1.heap.size := by have := hb1.size; simp at this; omega
      have BB1 := Lib.hid (show Below wr.heap.size wr w1 from below_tr (by (repeat (first | with_reducible exact Below.refl _ _ | ((with_reducible refine Below.setCell ?_ ?_ _); rotate_left; (focus (first | omega | (simp; done) | (simp; omega)))) | ((with_reducible refine Below.alloc ?_ ?_ _); rotate_left; (focus (first | omega | (simp; done) | (simp; omega)))) | (with_reducible refine Below.drew ?_) | (with_reducible refine below_drewN ?_ _) | ((with_reducible refine Below.trans ?_ (Below.mono (Below.refl _ _) ?_)); rotate_left; (focus (first | omega | (simp; done) | (simp; omega))))))) (hb1.mono (by simp)))
      have H1 := Lib.hid B1
      clear hb1 B1
      go_wp2_with fail
      refine (bwrite_any wr.heap.size wr.heap.size [] _ _ H1.out (by rw [strOfNums_size]; have := HPP.out; simp; omega) (by omega)).mono ?_
      rintro e w2 ⟨rfl, h2, hb2⟩
      have BB2 := Lib.hid (BB1.out.trans hb2)
      have hsz2 := hb2.size
      rw [List.nil_append] at h2
      have H2 := Lib.hid h2
      clear hb2 h2
      go_wp2_with fail
      go_loopw [8] (fun i w3 => ∃ (k : Nat) (acc : List Int), i = .int .i64 ((k : Int) - 1) ∧ k ≤ ps.length ∧ acc.length ≤ 20 * (1 + ps.length - k) ∧ acc ++ revcat (ps.take k) = T ∧ Lib.BuilderAt 92 5 wr.heap.size wr.heap.size (.pointer (some ⟨wr.heap.size, 0, none⟩)) (Lib.strCells (strOfNums acc)) w3 ∧ wr.heap.size < w3.heap.size ∧ Below wr.heap.size wr w3) (fun i _ => (intOf i + 1).toNat)
      case atStart => exact ⟨ps.length, P, by go_num, by omega, by have := HPP.out; omega, by simpa using HT3.out, H2.out, by omega, BB2.out⟩
      case round =>
        obtain ⟨k, acc, rfl, hk, hal, hacc, hB, hsz3, hb3⟩ := hrel
        have hal3 : acc.length ≤ 80 := by omega
        have HAL := Lib.hid hal; have HAC := Lib.hid hacc; have HBB := Lib.hid hB; have BB3 := Lib.hid hb3; have HA3 := Lib.hid hal3
        have HO3 := Lib.hid (own_keep HO.out fun g _ h => hb3.block g h)
        clear hal hacc hB hb3 hal3
        rcases Nat.eq_zero_or_pos k with rfl | hk0
        · rw [Int.natCast_zero]
          have hTa : acc = T := by have := HAC.out; simpa [revcat] using this
          go_wp2_with fail
          refine (Try.Builder_String_any _ _ (acc.map fun n => UInt8.ofNat n.toNat) _ (.inr HBB.out) (by omega)).mono ?_
          rintro e w4 ⟨rfl, hb4⟩
          have BB4 := Lib.hid (HB.out.trans ((BB3.out.trans hb4).mono (by omega)))
          clear hb4
          go_wp2
          go_ret
          exact ⟨rfl, BB4.out⟩
        · obtain ⟨j, rfl⟩ : ∃ j, k = j + 1 := ⟨k - 1, by omega⟩
          have hj1 : (((j + 1 : Nat) : Int) - 1) = (j : Int) := by omega
          rw [hj1]
          obtain ⟨p, hp⟩ := getElem?_ex (l := ps) (k := j) (by omega)
          obtain ⟨g, rfl⟩ := own_some HO3.out (by omega)
          have c9 := (HO3.out.cellAt j (by omega)).trans (show (strs ps)[j]? = some (Value.string (strOfNums p)) by simp [strs, hp])
          have hpl : p.length ≤ 20 := HPL.out p (List.mem_of_getElem? hp)
          have HP := Lib.hid hp; have HPL2 := Lib.hid hpl
          clear hp hpl
          go_wp2_with fail
          refine (bwrite_any _ _ _ _ _ (.inr HBB.out) (by rw [Lib.strCells_length, strOfNums_size, strOfNums_size]; have := HPL2.out; have := HA3.out; omega) (by omega)).mono ?_
          rintro e w4 ⟨rfl, h4, hb4⟩
          have hsz4 := hb4.size
          rw [strCells_app] at h4
          go_wp2
          go_roundw
          case rel => exact ⟨j, acc ++ p, by go_num, by omega, by have := HPL2.out; have := HAL.out; simp; omega, by rw [← HAC.out, revcat_take HP.out]; simp, h4, by omega, BB3.out.trans hb4⟩
          case measure => simp [intOf] <;> omega
end Go.Proofs.Yticpmcghdoiceaa
