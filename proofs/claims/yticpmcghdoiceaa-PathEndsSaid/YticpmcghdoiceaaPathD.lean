/-
  Walks of path.Ends and Weight.
-/
import Derived.Test.YticpmcghdoiceaaPathC
namespace Go.Proofs.Yticpmcghdoiceaa
open Go.RowKit

theorem leafAt_facts {t : TreeP} (h : IsTree t) {k j : Nat} (hj : (leavesT t t.nodes.length)[k]? = some j) :
    ∃ nd, t.nodes[j]? = some nd ∧ leafB nd = true ∧ 1 ≤ nd.size ∧ nd.size ≤ 64 ∧ 0 ≤ lenOf t j ∧ lenOf t j ≤ 556198264832 ∧ sizeOf' t j = nd.size := by
  have hm := List.mem_of_getElem? hj
  unfold leavesT at hm
  rw [List.mem_filter, List.mem_range] at hm
  obtain ⟨h1, h2⟩ := hm
  obtain ⟨nd, hnd⟩ := getElem?_ex h1
  unfold isLeafAt at h2
  rw [hnd] at h2
  obtain ⟨_, _, g, s, q, g1, g2⟩ := h
  have h6 : g ≤ 6 := Nat.le_trans g2 (logI_le g1)
  obtain ⟨e', h', s', q', p1, p2, p3⟩ := q.parts j (by omega) h1
  obtain ⟨n', hn', hs'⟩ := q'.at_
  rw [hnd] at hn'
  injection hn' with hn'
  subst hn'
  have hp := q'.pos
  have hd := q.dep 6 h6 j (by omega) h1
  have hb := norm_bd nd.size
  have e1 : sizeOf' t j = nd.size := by unfold sizeOf'; rw [hnd]; rfl
  have e2 : normI nd.size = (loN (heldN nd.size) + hiN (heldN nd.size)) / 2 := rfl
  have e3 : depOf t j = depT t 6 0 j := rfl
  refine ⟨nd, hnd, h2, by omega, by omega, ?_, ?_, e1⟩ <;> unfold lenOf <;> rw [e1, e2] <;> omega

theorem lenL_at {t : TreeP} {k j : Nat} (hj : (leavesT t t.nodes.length)[k]? = some j) : (lenL t)[k]? = some (lenOf t j) := by
  unfold lenL; rw [List.getElem?_map, hj]; rfl

def EndsI (l : List Int) (B k : Nat) (w : World) : Prop :=
  B + 2 < w.heap.size ∧ w.cell? ⟨B + 1, 0, none⟩ = some (.int .i64 ((l.take k).foldl min 4611686018427387904)) ∧ w.cell? ⟨B + 2, 0, none⟩ = some (.int .i64 ((l.take k).foldl max 0)) ∧ w.frozen? ⟨B + 1, 0, none⟩ = false ∧ w.frozen? ⟨B + 2, 0, none⟩ = false

theorem EndsI.stable {l : List Int} {B k : Nat} {w w' : World} (h : EndsI l B k w) (b : Below (B + 3) w w') : EndsI l B k w' := by
  obtain ⟨h1, h2, h3, h4, h5⟩ := h
  exact ⟨Nat.lt_of_lt_of_le h1 b.size, (b.cell (p := ⟨B + 1, 0, none⟩) (by simp)).trans h2, (b.cell (p := ⟨B + 2, 0, none⟩) (by simp)).trans h3, (b.frozen (p := ⟨B + 1, 0, none⟩) (by simp)).trans h4, (b.frozen (p := ⟨B + 2, 0, none⟩) (by simp)).trans h5⟩

set_option maxHeartbeats 1000000 in
theorem endstell_any (l : List Int) (B k : Nat) (z : Int) (nd : NodeP) (vn : Value) (w : World) (h : EndsI l B k w) (hz : l[k]? = some z) (hn : NodeV w vn nd) :
    Calls Try.prog 93 #[vn, .int .i64 z, .pointer (some ⟨B + 1, 0, none⟩), .pointer (some ⟨B + 2, 0, none⟩)] w
      fun e w' => (∃ r, e = .returned r) ∧ EndsI l B (k + 1) w' ∧ Below (B + 1) w w' ∧ ∀ q, B + 3 ≤ q → q < w.heap.size → w'.heap[q]? = w.heap[q]? := by
  obtain ⟨h1, h2, h3, h4, h5⟩ := h
  obtain ⟨cv, rfl, _⟩ := hn
  have H1 := Lib.hid (foldl_step (f := min) (a := 4611686018427387904) hz)
  have H2 := Lib.hid (foldl_step (f := max) (a := 0) hz)
  generalize (l.take k).foldl min 4611686018427387904 = lo at *
  generalize (l.take k).foldl max 0 = hi at *
  have n1 : B + 1 ≠ w.heap.size := by omega
  have n2 : B + 2 ≠ w.heap.size := by omega
  have l1 : B + 1 < w.heap.size := by omega
  clear hz
  go_enter Try.func93, Try.ntmps93
  go_wp2_with fail
  obtain ⟨W5, hW5⟩ : ∃ W5, W5 = w.alloc (.cells #[cv, .int .i64 nd.at_, .int .i64 nd.left, .int .i64 nd.right, .int .i64 nd.size] 65) := ⟨_, rfl⟩
  have t0 : W5.cell? ⟨B + 1, 0, none⟩ = some (.int .i64 lo) := by rw [hW5]; go_simp
  have t1 : W5.cell? ⟨B + 2, 0, none⟩ = some (.int .i64 hi) := by rw [hW5]; go_simp
  have t2 : W5.frozen? ⟨B + 1, 0, none⟩ = false := by rw [hW5]; go_simp
  have t3 : W5.frozen? ⟨B + 2, 0, none⟩ = false := by rw [hW5]; go_simp
  have B5 := Lib.hid (show Below w.heap.size w W5 from by rw [hW5]; (repeat (first | with_reducible exact Below.refl _ _ | ((with_reducible refine Below.setCell ?_ ?_ _); rotate_left; (focus (first | omega | (simp; done) | (simp; omega)))) | ((with_reducible refine Below.alloc ?_ ?_ _); rotate_left; (focus (first | omega | (simp; done) | (simp; omega)))) | (with_reducible refine Below.drew ?_) | (with_reducible refine below_drewN ?_ _))))
  have s5 : w.heap.size < W5.heap.size := by rw [hW5]; simp
  rw [← hW5]
  clear hW5 h2 h3 h4 h5
  go_region
  all_goals
    go_wp2_with fail
    go_end0
    refine ⟨⟨_, rfl⟩, ⟨by simp; omega, by rw [H1.out]; go_simp, by rw [H2.out]; go_simp, by go_simp, by go_simp⟩, below_tr (B5.out.mono (by omega)) (by (repeat (first | with_reducible exact Below.refl _ _ | ((with_reducible refine Below.setCell ?_ ?_ _); rotate_left; (focus (first | omega | (simp; done) | (simp; omega)))) | ((with_reducible refine Below.alloc ?_ ?_ _); rotate_left; (focus (first | omega | (simp; done) | (simp; omega)))) | (with_reducible refine Below.drew ?_) | (with_reducible refine below_drewN ?_ _)))), ?_⟩
    intro q q1 q2
    refine Eq.trans ?_ (B5.out.block q q2)
    show ((W5.setCell _ _).setCell _ _).heap[q]? = _
    rw [Below.heap_setCell _ _ _ _ (by simp; omega), Below.heap_setCell _ _ _ _ (by simp; omega)]

set_option maxRecDepth 100000 in
set_option maxHeartbeats 2000000 in
theorem ends_any (v : Value) (t : TreeP) (w : World) (h : TreeR w v t) :
    Calls Try.prog 45 #[v] w fun e w' => e = .returned (.tuple #[.int .i64 (if treeB t = true then (lenL t).foldl min 4611686018427387904 else 0), .int .i64 (if treeB t = true then (lenL t).foldl max 0 else 0), .int .i64 (if treeB t = true then 0 else 100)]) ∧ Below w.heap.size w w' := by
  have HTR := Lib.hid h
  have HW := Lib.hid (fun lo I W hcf h1 h2 h3 h4 h5 h6 => leaves_any v t 93 #[.pointer (some ⟨w.heap.size + 1, 0, none⟩), .pointer (some ⟨w.heap.size + 2, 0, none⟩)] lo I W hcf h1 h2 h3 h4 h5 h6)
  obtain ⟨nv, rfl, ad, cc, rfl, _, _, q3, hcell⟩ := h
  have HLEN := Lib.hid (show (lenL t).take (leavesT t t.nodes.length).length = lenL t from List.take_of_length_le (by unfold lenL; simp))
  have hLT : ∀ k j : Nat, (leavesT t t.nodes.length)[k]? = some j → (lenL t)[k]? = some (lenOf t j) := fun k j => lenL_at
  have HLT := Lib.hid hLT
  clear hcell hLT
  obtain ⟨LL, hLL⟩ : ∃ LL, leavesT t t.nodes.length = LL := ⟨_, rfl⟩
  rw [hLL] at HW HLEN HLT
  clear hLL
  generalize t.nodes.length = n at *
  generalize t.dim = D at *
  obtain ⟨lo, hlo⟩ : ∃ lo, (lenL t).foldl min 4611686018427387904 = lo := ⟨_, rfl⟩
  obtain ⟨hi, hhi⟩ : ∃ hi, (lenL t).foldl max 0 = hi := ⟨_, rfl⟩
  rw [hlo, hhi]
  have HLO := Lib.hid hlo
  have HHI := Lib.hid hhi
  clear hlo hhi
  obtain ⟨TB, hTB⟩ : ∃ TB, treeB t = TB := ⟨_, rfl⟩
  rw [hTB] at HW ⊢
  have HTB := Lib.hid hTB
  clear hTB
  cases TB with
  | true =>
    simp only [if_true] at HW ⊢
    go_enter Try.func45, Try.ntmps45
    go_wp2_with fail
    (with_reducible refine (HW.out (w.heap.size + 1) (EndsI (lenL t) w.heap.size) _ ?_ (HTR.out.below (by (repeat (first | with_reducible exact Below.refl _ _ | ((with_reducible refine Below.setCell ?_ ?_ _); rotate_left; (focus (first | omega | (simp; done) | (simp; omega)))) | ((with_reducible refine Below.alloc ?_ ?_ _); rotate_left; (focus (first | omega | (simp; done) | (simp; omega)))) | (with_reducible refine Below.drew ?_) | (with_reducible refine below_drewN ?_ _))))) ?_ (by simp <;> omega) (fun k W W' hI hb => hI.stable (by simpa using hb)) ?_ ?_).mono ?_)
    · intro args W
      rfl
    · intro W hb
      exact HTR.out.below (below_tr (by (repeat (first | with_reducible exact Below.refl _ _ | ((with_reducible refine Below.setCell ?_ ?_ _); rotate_left; (focus (first | omega | (simp; done) | (simp; omega)))) | ((with_reducible refine Below.alloc ?_ ?_ _); rotate_left; (focus (first | omega | (simp; done) | (simp; omega)))) | (with_reducible refine Below.drew ?_) | (with_reducible refine below_drewN ?_ _)))) (hb.mono (by omega)))
    · exact ⟨by simp, by go_simp, by go_simp, by go_simp, by go_simp⟩
    · intro _ k j nd vn W hj hnd hnv hI hs
      refine (endstell_any (lenL t) w.heap.size k (lenOf t j) nd vn W hI (HLT.out k j hj) hnv).mono ?_
      rintro e w' ⟨a1, a2, a3, a4⟩
      exact ⟨a1, a2, a3, fun q q1 q2 => a4 q (by simpa using q1) q2⟩
    rintro e w1 ⟨rfl, hI, b1⟩
    have BW := Lib.hid (show Below w.heap.size w w1 from below_tr (by (repeat (first | with_reducible exact Below.refl _ _ | ((with_reducible refine Below.setCell ?_ ?_ _); rotate_left; (focus (first | omega | (simp; done) | (simp; omega)))) | ((with_reducible refine Below.alloc ?_ ?_ _); rotate_left; (focus (first | omega | (simp; done) | (simp; omega)))) | (with_reducible refine Below.drew ?_) | (with_reducible refine below_drewN ?_ _)))) (b1.mono (by omega)))
    clear b1
    obtain ⟨i1, i2, i3, i4, i5⟩ := hI
    rw [HLEN.out, HLO.out] at i2
    rw [HLEN.out, HHI.out] at i3
    clear i4 i5
    go_wp2_with fail
    go_quiet (fail)
    go_wp2_with fail
    exact bodyPost_ret (v := .tuple #[.int .i64 lo, .int .i64 hi, .int .i64 0]) (by simp [results, Try.results45, go_sem]) rfl ⟨rfl, by (repeat (first | with_reducible exact Below.refl _ _ | ((with_reducible refine Below.setCell ?_ ?_ _); rotate_left; (focus (first | omega | (simp; done) | (simp; omega)))) | ((with_reducible refine Below.alloc ?_ ?_ _); rotate_left; (focus (first | omega | (simp; done) | (simp; omega)))) | (with_reducible refine Below.drew ?_) | (with_reducible refine below_drewN ?_ _) | ((with_reducible refine Below.trans ?_ (Below.mono BW.out ?_)); rotate_left; (focus (first | omega | (simp; done) | (simp; omega))))))⟩
  | false =>
    simp only [Bool.false_eq_true, if_false] at HW ⊢
    go_enter Try.func45, Try.ntmps45
    go_wp2_with fail
    (with_reducible refine (HW.out (w.heap.size + 1) (EndsI (lenL t) w.heap.size) _ ?_ (HTR.out.below (by (repeat (first | with_reducible exact Below.refl _ _ | ((with_reducible refine Below.setCell ?_ ?_ _); rotate_left; (focus (first | omega | (simp; done) | (simp; omega)))) | ((with_reducible refine Below.alloc ?_ ?_ _); rotate_left; (focus (first | omega | (simp; done) | (simp; omega)))) | (with_reducible refine Below.drew ?_) | (with_reducible refine below_drewN ?_ _))))) ?_ (by simp <;> omega) (fun k W W' hI hb => hI.stable (by simpa using hb)) ?_ ?_).mono ?_)
    · intro args W
      rfl
    · intro W hb
      exact HTR.out.below (below_tr (by (repeat (first | with_reducible exact Below.refl _ _ | ((with_reducible refine Below.setCell ?_ ?_ _); rotate_left; (focus (first | omega | (simp; done) | (simp; omega)))) | ((with_reducible refine Below.alloc ?_ ?_ _); rotate_left; (focus (first | omega | (simp; done) | (simp; omega)))) | (with_reducible refine Below.drew ?_) | (with_reducible refine below_drewN ?_ _)))) (hb.mono (by omega)))
    · exact ⟨by simp, by go_simp, by go_simp, by go_simp, by go_simp⟩
    · intro _ k j nd vn W hj hnd hnv hI hs
      refine (endstell_any (lenL t) w.heap.size k (lenOf t j) nd vn W hI (HLT.out k j hj) hnv).mono ?_
      rintro e w' ⟨a1, a2, a3, a4⟩
      exact ⟨a1, a2, a3, fun q q1 q2 => a4 q (by simpa using q1) q2⟩
    rintro e w1 ⟨rfl, hI, b1⟩
    have BW := Lib.hid (show Below w.heap.size w w1 from below_tr (by (repeat (first | with_reducible exact Below.refl _ _ | ((with_reducible refine Below.setCell ?_ ?_ _); rotate_left; (focus (first | omega | (simp; done) | (simp; omega)))) | ((with_reducible refine Below.alloc ?_ ?_ _); rotate_left; (focus (first | omega | (simp; done) | (simp; omega)))) | (with_reducible refine Below.drew ?_) | (with_reducible refine below_drewN ?_ _)))) (b1.mono (by omega)))
    clear b1
    clear hI
    go_wp2_with fail
    exact bodyPost_ret (v := .tuple #[.int .i64 0, .int .i64 0, .int .i64 100]) (by simp [results, Try.results45, go_sem]) rfl ⟨rfl, by (repeat (first | with_reducible exact Below.refl _ _ | ((with_reducible refine Below.setCell ?_ ?_ _); rotate_left; (focus (first | omega | (simp; done) | (simp; omega)))) | ((with_reducible refine Below.alloc ?_ ?_ _); rotate_left; (focus (first | omega | (simp; done) | (simp; omega)))) | (with_reducible refine Below.drew ?_) | (with_reducible refine below_drewN ?_ _) | ((with_reducible refine Below.trans ?_ (Below.mono BW.out ?_)); rotate_left; (focus (first | omega | (simp; done) | (simp; omega))))))⟩

/-- What Weight's closure has written, behind k leaves: their lengths, as often as they have points. -/
def wtL (t : TreeP) : List Int := (leavesT t t.nodes.length).map fun i => sizeOf' t i * lenOf t i

def sumI : List Int → Int
  | [] => 0
  | x :: l => x + sumI l

theorem sumI_snoc (l : List Int) (x : Int) : sumI (l ++ [x]) = sumI l + x := by
  induction l with
  | nil => simp [sumI]
  | cons y l ih => simp [sumI, ih]; omega

theorem sumI_bd {l : List Int} {b : Int} (h : ∀ x ∈ l, 0 ≤ x ∧ x ≤ b) : 0 ≤ sumI l ∧ sumI l ≤ b * (l.length : Int) := by
  induction l with
  | nil => simp [sumI]
  | cons x l ih =>
    have h1 := h x (by simp)
    have h2 := ih fun y hy => h y (by simp [hy])
    simp only [sumI, List.length_cons]
    rw [Int.natCast_add, Int.mul_add]
    omega

theorem wtL_at {t : TreeP} (h : IsTree t) {k j : Nat} {nd : NodeP} (hj : (leavesT t t.nodes.length)[k]? = some j) (hn : t.nodes[j]? = some nd) :
    (wtL t)[k]? = some (nd.size * lenOf t j) ∧ 0 ≤ nd.size * lenOf t j ∧ nd.size * lenOf t j ≤ 35596688949248 := by
  obtain ⟨nd', hn', _, h1, h2, h3, h4, h5⟩ := leafAt_facts h hj
  rw [hn] at hn'
  injection hn' with hn'
  subst hn'
  refine ⟨by unfold wtL; rw [List.getElem?_map, hj]; simp [h5], Int.mul_nonneg (by omega) h3, ?_⟩
  calc nd.size * lenOf t j ≤ 64 * lenOf t j := Int.mul_le_mul_of_nonneg_right h2 h3
    _ ≤ 64 * 556198264832 := Int.mul_le_mul_of_nonneg_left h4 (by omega)
    _ = 35596688949248 := by decide

theorem wtL_bd {t : TreeP} (h : IsTree t) (k : Nat) : 0 ≤ sumI ((wtL t).take k) ∧ sumI ((wtL t).take k) ≤ 4520779496554496 := by
  have hl := h.len
  have hb : ∀ x ∈ (wtL t).take k, 0 ≤ x ∧ x ≤ 35596688949248 := by
    intro x hx
    obtain ⟨i, hi⟩ := List.getElem?_of_mem (List.mem_of_mem_take hx)
    have hi2 := hi
    unfold wtL at hi2
    rw [List.getElem?_map] at hi2
    cases hj : (leavesT t t.nodes.length)[i]? with
    | none => rw [hj] at hi2; cases hi2
    | some j =>
      obtain ⟨nd, hn, _⟩ := leafAt_facts h hj
      have := wtL_at h hj hn
      rw [hi] at this
      have e := this.1
      injection e with e
      omega
  have := sumI_bd hb
  have hlen : ((wtL t).take k).length ≤ 127 := by
    have : (leavesT t t.nodes.length).length ≤ t.nodes.length := by unfold leavesT; have := List.length_filter_le (isLeafAt t) (List.range t.nodes.length); simpa using this
    simp [wtL]; omega
  omega

def WtI (l : List Int) (B k : Nat) (w : World) : Prop :=
  B + 1 < w.heap.size ∧ w.cell? ⟨B + 1, 0, none⟩ = some (.int .i64 (sumI (l.take k))) ∧ w.frozen? ⟨B + 1, 0, none⟩ = false

theorem WtI.stable {l : List Int} {B k : Nat} {w w' : World} (h : WtI l B k w) (b : Below (B + 2) w w') : WtI l B k w' := by
  obtain ⟨h1, h2, h4⟩ := h
  exact ⟨Nat.lt_of_lt_of_le h1 b.size, (b.cell (p := ⟨B + 1, 0, none⟩) (by simp)).trans h2, (b.frozen (p := ⟨B + 1, 0, none⟩) (by simp)).trans h4⟩

set_option maxHeartbeats 1000000 in
theorem wttell_any (l : List Int) (B k : Nat) (z : Int) (nd : NodeP) (vn : Value) (w : World) (h : WtI l B k w) (hz : l[k]? = some (nd.size * z)) (hn : NodeV w vn nd)
    (hb1 : 0 ≤ nd.size * z) (hb2 : nd.size * z ≤ 35596688949248) (hs1 : 0 ≤ sumI (l.take k)) (hs2 : sumI (l.take k) ≤ 4520779496554496) :
    Calls Try.prog 95 #[vn, .int .i64 z, .pointer (some ⟨B + 1, 0, none⟩)] w
      fun e w' => (∃ r, e = .returned r) ∧ WtI l B (k + 1) w' ∧ Below (B + 1) w w' ∧ ∀ q, B + 2 ≤ q → q < w.heap.size → w'.heap[q]? = w.heap[q]? := by
  obtain ⟨h1, h2, h4⟩ := h
  obtain ⟨cv, rfl, _⟩ := hn
  have H1 := Lib.hid (show sumI (l.take (k + 1)) = sumI (l.take k) + nd.size * z by rw [take_snoc' hz, sumI_snoc])
  generalize sumI (l.take k) = lo at *
  generalize nd.size = sz at *
  obtain ⟨p, hp⟩ : ∃ p, sz * z = p := ⟨_, rfl⟩
  rw [hp] at hb1 hb2 H1
  have n1 : B + 1 ≠ w.heap.size := by omega
  have l1 : B + 1 < w.heap.size := by omega
  clear hz
  go_enter Try.func95, Try.ntmps95
  go_wp2_with fail
  go_end0
  refine ⟨⟨_, rfl⟩, ⟨by simp; omega, by rw [H1.out]; go_simp, by go_simp⟩, by (repeat (first | with_reducible exact Below.refl _ _ | ((with_reducible refine Below.setCell ?_ ?_ _); rotate_left; (focus (first | omega | (simp; done) | (simp; omega)))) | ((with_reducible refine Below.alloc ?_ ?_ _); rotate_left; (focus (first | omega | (simp; done) | (simp; omega)))) | (with_reducible refine Below.drew ?_) | (with_reducible refine below_drewN ?_ _))), ?_⟩
  intro q q1 q2
  rw [Below.heap_alloc _ _ _ (by simp; omega), Below.heap_setCell _ _ _ _ (by simp; omega)]

set_option maxRecDepth 100000 in
set_option maxHeartbeats 2000000 in
theorem weight_any (v : Value) (t : TreeP) (w : World) (h : TreeR w v t) :
    Calls Try.prog 47 #[v] w fun e w' => e = .returned (.tuple #[.int .i64 (if treeB t = true then sumI (wtL t) else 0), .int .i64 (if treeB t = true then 0 else 100)]) ∧ Below w.heap.size w w' := by
  have HTR := Lib.hid h
  have HW := Lib.hid (fun lo I W hcf h1 h2 h3 h4 h5 h6 => leaves_any v t 95 #[.pointer (some ⟨w.heap.size + 1, 0, none⟩)] lo I W hcf h1 h2 h3 h4 h5 h6)
  obtain ⟨nv, rfl, ad, cc, rfl, _, _, q3, hcell⟩ := h
  have HLEN := Lib.hid (show (wtL t).take (leavesT t t.nodes.length).length = wtL t from List.take_of_length_le (by unfold wtL; simp))
  have HFA := Lib.hid (fun (ht : IsTree t) (k j : Nat) nd (hj : (leavesT t t.nodes.length)[k]? = some j) (hn : t.nodes[j]? = some nd) => wtL_at ht hj hn)
  have HFB := Lib.hid (fun (ht : IsTree t) k => wtL_bd ht k)
  clear hcell
  obtain ⟨LL, hLL⟩ : ∃ LL, leavesT t t.nodes.length = LL := ⟨_, rfl⟩
  rw [hLL] at HW HLEN HFA
  clear hLL
  generalize t.nodes.length = n at *
  generalize t.dim = D at *
  obtain ⟨lo, hlo⟩ : ∃ lo, sumI (wtL t) = lo := ⟨_, rfl⟩
  rw [hlo]
  have HLO := Lib.hid hlo
  clear hlo
  obtain ⟨TB, hTB⟩ : ∃ TB, treeB t = TB := ⟨_, rfl⟩
  rw [hTB] at HW ⊢
  have HTB := Lib.hid hTB
  clear hTB
  cases TB with
  | true =>
    simp only [if_true] at HW ⊢
    go_enter Try.func47, Try.ntmps47
    go_wp2_with fail
    (with_reducible refine (HW.out (w.heap.size + 1) (WtI (wtL t) w.heap.size) _ ?_ (HTR.out.below (by (repeat (first | with_reducible exact Below.refl _ _ | ((with_reducible refine Below.setCell ?_ ?_ _); rotate_left; (focus (first | omega | (simp; done) | (simp; omega)))) | ((with_reducible refine Below.alloc ?_ ?_ _); rotate_left; (focus (first | omega | (simp; done) | (simp; omega)))) | (with_reducible refine Below.drew ?_) | (with_reducible refine below_drewN ?_ _))))) ?_ (by simp <;> omega) (fun k W W' hI hb => hI.stable (by simpa using hb)) ?_ ?_).mono ?_)
    · intro args W
      rfl
    · intro W hb
      exact HTR.out.below (below_tr (by (repeat (first | with_reducible exact Below.refl _ _ | ((with_reducible refine Below.setCell ?_ ?_ _); rotate_left; (focus (first | omega | (simp; done) | (simp; omega)))) | ((with_reducible refine Below.alloc ?_ ?_ _); rotate_left; (focus (first | omega | (simp; done) | (simp; omega)))) | (with_reducible refine Below.drew ?_) | (with_reducible refine below_drewN ?_ _)))) (hb.mono (by omega)))
    · have e0 : sumI ((wtL t).take 0) = 0 := rfl
      refine ⟨by simp, ?_, by go_simp⟩
      rw [e0]; go_simp
    · intro ht k j nd vn W hj hnd hnv hI hs
      have g1 := HFA.out ht k j nd hj hnd
      have g2 := HFB.out ht k
      refine (wttell_any (wtL t) w.heap.size k (lenOf t j) nd vn W hI g1.1 hnv g1.2.1 g1.2.2 g2.1 g2.2).mono ?_
      rintro e w' ⟨a1, a2, a3, a4⟩
      exact ⟨a1, a2, a3, fun q q1 q2 => a4 q (by simpa using q1) q2⟩
    rintro e w1 ⟨rfl, hI, b1⟩
    have BW := Lib.hid (show Below w.heap.size w w1 from below_tr (by (repeat (first | with_reducible exact Below.refl _ _ | ((with_reducible refine Below.setCell ?_ ?_ _); rotate_left; (focus (first | omega | (simp; done) | (simp; omega)))) | ((with_reducible refine Below.alloc ?_ ?_ _); rotate_left; (focus (first | omega | (simp; done) | (simp; omega)))) | (with_reducible refine Below.drew ?_) | (with_reducible refine below_drewN ?_ _)))) (b1.mono (by omega)))
    clear b1
    obtain ⟨i1, i2, i4⟩ := hI
    rw [HLEN.out, HLO.out] at i2
    clear i4
    go_wp2_with fail
    exact bodyPost_ret (v := .tuple #[.int .i64 lo, .int .i64 0]) (by simp [results, Try.results47, go_sem]) rfl ⟨rfl, by (repeat (first | with_reducible exact Below.refl _ _ | ((with_reducible refine Below.setCell ?_ ?_ _); rotate_left; (focus (first | omega | (simp; done) | (simp; omega)))) | ((with_reducible refine Below.alloc ?_ ?_ _); rotate_left; (focus (first | omega | (simp; done) | (simp; omega)))) | (with_reducible refine Below.drew ?_) | (with_reducible refine below_drewN ?_ _) | ((with_reducible refine Below.trans ?_ (Below.mono BW.out ?_)); rotate_left; (focus (first | omega | (simp; done) | (simp; omega))))))⟩
  | false =>
    simp only [Bool.false_eq_true, if_false] at HW ⊢
    go_enter Try.func47, Try.ntmps47
    go_wp2_with fail
    (with_reducible refine (HW.out (w.heap.size + 1) (WtI (wtL t) w.heap.size) _ ?_ (HTR.out.below (by (repeat (first | with_reducible exact Below.refl _ _ | ((with_reducible refine Below.setCell ?_ ?_ _); rotate_left; (focus (first | omega | (simp; done) | (simp; omega)))) | ((with_reducible refine Below.alloc ?_ ?_ _); rotate_left; (focus (first | omega | (simp; done) | (simp; omega)))) | (with_reducible refine Below.drew ?_) | (with_reducible refine below_drewN ?_ _))))) ?_ (by simp <;> omega) (fun k W W' hI hb => hI.stable (by simpa using hb)) ?_ ?_).mono ?_)
    · intro args W
      rfl
    · intro W hb
      exact HTR.out.below (below_tr (by (repeat (first | with_reducible exact Below.refl _ _ | ((with_reducible refine Below.setCell ?_ ?_ _); rotate_left; (focus (first | omega | (simp; done) | (simp; omega)))) | ((with_reducible refine Below.alloc ?_ ?_ _); rotate_left; (focus (first | omega | (simp; done) | (simp; omega)))) | (with_reducible refine Below.drew ?_) | (with_reducible refine below_drewN ?_ _)))) (hb.mono (by omega)))
    · have e0 : sumI ((wtL t).take 0) = 0 := rfl
      refine ⟨by simp, ?_, by go_simp⟩
      rw [e0]; go_simp
    · intro ht
      exact absurd ht (treeB_false.1 HTB.out)
    rintro e w1 ⟨rfl, hI, b1⟩
    have BW := Lib.hid (show Below w.heap.size w w1 from below_tr (by (repeat (first | with_reducible exact Below.refl _ _ | ((with_reducible refine Below.setCell ?_ ?_ _); rotate_left; (focus (first | omega | (simp; done) | (simp; omega)))) | ((with_reducible refine Below.alloc ?_ ?_ _); rotate_left; (focus (first | omega | (simp; done) | (simp; omega)))) | (with_reducible refine Below.drew ?_) | (with_reducible refine below_drewN ?_ _)))) (b1.mono (by omega)))
    clear b1 hI
    go_wp2_with fail
    exact bodyPost_ret (v := .tuple #[.int .i64 0, .int .i64 100]) (by simp [results, Try.results47, go_sem]) rfl ⟨rfl, by (repeat (first | with_reducible exact Below.refl _ _ | ((with_reducible refine Below.setCell ?_ ?_ _); rotate_left; (focus (first | omega | (simp; done) | (simp; omega)))) | ((with_reducible refine Below.alloc ?_ ?_ _); rotate_left; (focus (first | omega | (simp; done) | (simp; omega)))) | (with_reducible refine Below.drew ?_) | (with_reducible refine below_drewN ?_ _) | ((with_reducible refine Below.trans ?_ (Below.mono BW.out ?_)); rotate_left; (focus (first | omega | (simp; done) | (simp; omega))))))⟩
end Go.Proofs.Yticpmcghdoiceaa
