/-
  ArgMany: Arguments that are slices of slices of integers: how they read; copseref08.Much.
-/
import Derived.Test.YtjmjnkilgoelbaaJ0b
import Derived.Test.YtjmjnkilgoelbaaJ7a
import Derived.Test.YtjmjnkilgoelbaaJ2b
import Derived.Test.YtjmjnkilgoelbaaJ2a
namespace Go.Proofs.Ytjmjnkilgoelbaa
open Go.ChangeShapes Go.WideShapes Go.ChangeAt Go.RowKit Go.Deep

/-- v is a slice of slices of integers. -/
def ArgMany (w : World) (v : Value) (l : List (List Int)) : Prop :=
  ∃ a c, v = .slice a l.length c ∧ l.length ≤ c ∧ c ≤ 9223372036854775807 ∧
    ∀ (i : Nat) (x : List Int), l[i]? = some x → ∃ b o u, a = some ⟨b, o, none⟩ ∧ b < w.heap.size ∧ w.cell? ⟨b, o + i, none⟩ = some u ∧ ArgInts .i64 w u x

section
variable {H : Type} {enc : TypeId × Value → H} {P : Program} {w : World} {base : Nat} {held : Bool}

theorem argMany_of {tR tI tS : TypeId} (hS : P.underlying tS = some (.slice tR)) (hR : P.underlying tR = some (.slice tI)) (hI : P.underlying tI = some (.int .i64)) (cI : P.cellsOf tI = 1) (cR : P.cellsOf tR = 1) {r : Reach} {b0 : Nat} {v : Value} {d : DataW H} {p : List MemPlace}
    (hv : Value.okWide P w r b0 tS v) (h : DataW.Trod enc P w base (fun _ => true) held tS v d p) : ∃ l, ArgMany w v l := by
  obtain ⟨a, len, cap, rfl⟩ := okWide_slice hS hv
  obtain ⟨fuel, hf⟩ := h
  rcases open_slice hS hf with ⟨hcs, _⟩ | ⟨a, len, cap, m, n, D, Pl, hcs, hb, hl, hm, hmm, hx, hi⟩
  · simp [Value.cells] at hcs
    obtain ⟨rfl, rfl, rfl⟩ := hcs
    exact ⟨[], none, 0, rfl, by simp, by omega, fun i x h => by simp at h⟩
  · simp [Value.cells] at hcs hmm
    obtain ⟨rfl, rfl, rfl⟩ := hcs
    subst hmm
    have hs0 : 0 < len → a.spot = none := by
      intro h0
      obtain ⟨cs, hc, _⟩ := hi 0 (by omega)
      rw [cR] at hc
      obtain ⟨_, hcl, hat⟩ := World.cells?_some hc
      match cs, hcl with
      | [c0], _ =>
        have a0 := hat 0 (by omega)
        rw [Go.Deep.add_add] at a0
        exact spot_none a0
    have key : ∀ i, i < len → ∃ x : List Int, a.spot = none ∧ a.block < w.heap.size ∧ ∃ u, w.cell? ⟨a.block, a.off + i, none⟩ = some u ∧ ArgInts .i64 w u x := by
      intro i hil
      obtain ⟨cs, hc, ht⟩ := hi i (by omega)
      rw [cR] at hc
      obtain ⟨_, hcl, hat⟩ := World.cells?_some hc
      match cs, hcl with
      | [c0], _ =>
        obtain ⟨x, hx⟩ := trod_ints hR hI cI ht
        have a0 := hat 0 (by omega)
        rw [Go.Deep.add_add] at a0
        have hs := hs0 (by omega)
        rw [add_none hs] at a0
        simp only [Nat.mul_one, Nat.add_zero] at a0
        exact ⟨x, hs, World.block_lt_of_cell? w ⟨a.block, _, none⟩ a0, c0, a0, hx⟩
    obtain ⟨l, hll, hlp⟩ := list_of_ex (P := fun i (x : List Int) => a.spot = none ∧ a.block < w.heap.size ∧ ∃ u, w.cell? ⟨a.block, a.off + i, none⟩ = some u ∧ ArgInts .i64 w u x) key
    refine ⟨l, some a, m, by rw [hll], by omega, by unfold maxLen at hm; omega, fun i x hi => ?_⟩
    obtain ⟨g1, g2, u, g3, g4⟩ := hlp i x hi
    refine ⟨a.block, a.off, u, ?_, g2, g3, g4⟩
    obtain ⟨ab, ao, sp⟩ := a
    simp at g1
    subst g1
    rfl
end

set_option maxRecDepth 100000 in
theorem argMany_in {H : Type} {enc : TypeId × Value → H} {w : World} {base : Nat} {held : Bool} {r : Reach} {b0 : Nat} {v : Value} {d : DataW H} {p : List MemPlace}
    (hv : Value.okWide Try.prog w r b0 111 v) (h : DataW.Trod enc Try.prog w base (fun _ => true) held 111 v d p) : ∃ l, ArgMany w v l :=
  argMany_of Try.underlying111 Try.underlying61 Try.underlying3 (by kernel_rfl) (by kernel_rfl) hv h

theorem ArgMany.below {w w' : World} {v : Value} {l : List (List Int)} (h : ArgMany w v l) (B : Below w.heap.size w w') : ArgMany w' v l := by
  obtain ⟨a, c, e, h1, h2, h⟩ := h
  refine ⟨a, c, e, h1, h2, fun i x hi => ?_⟩
  obtain ⟨b, o, u, e, hb, c0, hn⟩ := h i x hi
  exact ⟨b, o, u, e, Nat.lt_of_lt_of_le hb B.size, (B.cell (p := ⟨b, _, none⟩) hb).trans c0, hn.below' B⟩

def muchM (l : List (List Int)) (most : Nat) : Bool := decide (most < l.length) || l.any fun x => decide (20 < x.length)

theorem ArgMany.rows {w : World} {v : Value} {l : List (List Int)} {most : Nat} (h : ArgMany w v l) (hm : muchM l most = false) (hb : most ≤ 1000) : RowsR w v l ∧ l.length ≤ most := by
  obtain ⟨a, c, e, h1, h2, h⟩ := h
  unfold muchM at hm
  rw [Bool.or_eq_false_iff, decide_eq_false_iff_not, List.any_eq_false] at hm
  refine ⟨⟨a, c, e, h1, h2, by omega, fun i x hi => ?_⟩, by omega⟩
  obtain ⟨b, o, u, e, hb, c0, hn⟩ := h i x hi
  have hc := hm.2 x (List.mem_of_getElem? hi)
  exact ⟨b, o, u, e, hb, c0, hn.ints (by simp at hc; omega)⟩

set_option maxHeartbeats 1000000 in
theorem rmuch08_any (v : Value) (l : List (List Int)) (most : Nat) (w : World) (h : ArgMany w v l) (hmost : most ≤ 1000) :
    Calls Try.prog 68 #[v, .int .i64 most] w fun e w' => e = .returned (.bool (muchM l most)) ∧ Below w.heap.size w w' := by
  obtain ⟨ad, cc, rfl, hc1, hc2, h⟩ := h
  have H := Lib.hid h
  have HN := Lib.hid (show muchM l most = (decide (most < l.length) || l.any fun x => decide (20 < x.length)) from rfl)
  clear h
  obtain ⟨M, hM⟩ : ∃ M, muchM l most = M := ⟨_, rfl⟩
  rw [hM] at HN ⊢
  clear hM
  obtain ⟨n, hn⟩ : ∃ n, l.length = n := ⟨_, rfl⟩
  rw [hn] at HN hc1 ⊢
  have HL := Lib.hid hn
  clear hn
  have hnb : (n : Int) ≤ 9223372036854775807 := by omega
  by_cases h2 : most < n
  · have G := Lib.hid (show M = true by rw [HN.out]; simp [h2])
    have h3 : (most : Int) < n := by omega
    go_enter Try.func68, Try.ntmps68
    go_wp2_with fail
    go_ret
    exact ⟨by rw [G.out]; rfl, by (repeat (first | with_reducible exact Below.refl _ _ | with_reducible refine Bs ?_ | with_reducible refine Ba ?_ | with_reducible refine Bd ?_ | with_reducible refine Bn ?_))⟩
  · have h3 : (n : Int) ≤ most := by omega
    have h3' : ¬ (most : Int) < n := by omega
    go_enter Try.func68, Try.ntmps68
    go_wp2_with fail
    go_loopw [5] (fun i wr => ∃ k : Nat, i = .int .i64 k ∧ k ≤ n ∧ (∀ j x, j < k → l[j]? = some x → x.length ≤ 20) ∧ wr = w) (fun i _ => n - (intOf i).toNat)
    case atStart => exact ⟨0, rfl, by omega, fun j nd h => by omega, rfl⟩
    case round =>
      obtain ⟨k, rfl, hk, hall, rfl⟩ := hrel
      have HA := Lib.hid hall
      clear hall
      by_cases hlt : k < n
      · obtain ⟨x, hx⟩ := getElem?_ex (l := l) (k := k) (by rw [HL.out]; exact hlt)
        obtain ⟨b, o, u, rfl, hb, g1, ⟨a', c', rfl, q1, q2, _⟩⟩ := H.out k x hx
        have HX := Lib.hid hx
        have i1 : (0 : Int) ≤ (k : Int) := by omega
        have i2 : (k : Int) < (n : Int) := by omega
        clear hx
        obtain ⟨cl, hcl⟩ : ∃ cl, x.length = cl := ⟨_, rfl⟩
        rw [hcl] at g1 q1
        have HCL := Lib.hid hcl
        clear hcl
        by_cases h4 : 20 < cl
        · have G := Lib.hid (show M = true by
            rw [HN.out, Bool.or_eq_true, List.any_eq_true]
            exact .inr ⟨x, List.mem_of_getElem? HX.out, by rw [HCL.out]; simp [h4]⟩)
          have h5 : (20 : Int) < cl := by omega
          go_wp2_with fail
          go_ret
          exact ⟨by rw [G.out]; rfl, by (repeat (first | with_reducible exact Below.refl _ _ | with_reducible refine Bs ?_ | with_reducible refine Ba ?_ | with_reducible refine Bd ?_ | with_reducible refine Bn ?_))⟩
        · have h5 : (cl : Int) ≤ 20 := by omega
          go_wp2_with fail
          go_roundw
          case rel =>
            refine ⟨k + 1, by go_num, by omega, fun j y hj hy => ?_, trivial⟩
            rcases Nat.lt_or_ge j k with h | h
            · exact HA.out j y h hy
            · obtain rfl : j = k := by omega
              rw [HX.out] at hy
              injection hy with hy
              subst hy
              rw [HCL.out]
              omega
          case measure => simp [intOf] <;> omega
      · obtain rfl : k = n := by omega
        have G := Lib.hid (show M = false by
          rw [HN.out, Bool.or_eq_false_iff, List.any_eq_false]
          refine ⟨by simp; omega, fun x hx => ?_⟩
          obtain ⟨i, hi⟩ := List.getElem?_of_mem hx
          have := HA.out i x (by have := (List.getElem?_eq_some_iff.1 hi).1; have := HL.out; omega) hi
          simp; omega)
        go_wp2_with fail
        go_ret
        exact ⟨by rw [G.out]; rfl, by (repeat (first | with_reducible exact Below.refl _ _ | with_reducible refine Bs ?_ | with_reducible refine Ba ?_ | with_reducible refine Bd ?_ | with_reducible refine Bn ?_))⟩

theorem dim0_L {l : List TreeP} (h : ∀ t ∈ l, treeB t = true ∧ t.dim = dimL l) (h0 : l ≠ []) : dim0 l = dimL l := by
  cases l with
  | nil => exact absurd rfl h0
  | cons t l => exact (h t (by simp)).2

theorem sumE_L {l : List TreeP} {x : List Int} (h : ofC l = 0) (hall : ∀ t ∈ l, treeB t = true ∧ t.dim = dimL l) (h0 : l ≠ []) (hv : vecB x (dimL l) = true) : sumE l x = 0 := by
  unfold ofC at h
  unfold sumE
  by_cases h16 : 16 < l.length
  · rw [if_pos h16] at h; cases h
  · rw [if_neg h16] at h ⊢
    by_cases ha : allT l = false
    · rw [if_pos ha] at h; cases h
    · rw [if_neg (by have := List.length_pos_iff.2 h0; omega), if_neg ha, if_neg]
      rw [dim0_L hall h0, hv]
      decide

set_option maxHeartbeats 1000000 in
theorem r15sum_any (v vx : Value) (l : List TreeP) (x : List Int) (w : World) (h : TreesR w v l) (hx : Ints .i64 w vx x) (hC : ofC l = 0) (hall : ∀ t ∈ l, treeB t = true ∧ t.dim = dimL l) :
    Calls Try.prog 70 #[v, vx] w fun e w' => e = .returned (.tuple #[.int .i64 (fsV l x), .int .i64 (fsE l x)]) ∧ Below w.heap.size w w' := by
  have HV := Lib.hid (fun W (hW : Below w.heap.size w W) => risv_any vx x (dimL l) W (hx.below hW))
  have HSU := Lib.hid (fun W (hW : Below w.heap.size w W) => rsum12_any v vx l x W (h.below hW) (hx.below hW))
  obtain ⟨ax, xc, rfl⟩ := hx.shape
  obtain ⟨ad, cc, rfl, _, _, _, hcell⟩ := h
  by_cases h0 : l = []
  · subst h0
    have e0 : fsE [] x = 4 := by unfold fsE; rw [if_pos rfl]
    have e1 : fsV [] x = 0 := by unfold fsV; rw [e0]; rfl
    rw [e0, e1]
    simp only [List.length_nil]
    clear hcell hall hC e0 e1
    go_enter Try.func70, Try.ntmps70
    go_wp2_with fail
    exact bodyPost_ret (v := .tuple #[.int .i64 0, .int .i64 4]) (by simp [results, Try.results70, go_sem]) rfl ⟨rfl, by (repeat (first | with_reducible exact Below.refl _ _ | with_reducible refine Bs ?_ | with_reducible refine Ba ?_ | with_reducible refine Bd ?_ | with_reducible refine Bn ?_))⟩
  · have hl1 : 1 ≤ l.length := List.length_pos_iff.2 h0
    obtain ⟨t0, ht0⟩ := getElem?_ex (l := l) (k := 0) hl1
    obtain ⟨b, o, nv, rfl, hb, c0, _, _⟩ := hcell 0 t0 ht0
    rw [Nat.zero_mul, Nat.add_zero, (hall t0 (List.mem_of_getElem? ht0)).2] at c0
    cases hvb : vecB x (dimL l) with
    | false =>
      have e0 : fsE l x = 80 := by unfold fsE; rw [if_neg h0, if_pos hvb]
      have e1 : fsV l x = 0 := by unfold fsV; rw [e0]; rfl
      rw [e0, e1]
      rw [hvb] at HV
      obtain ⟨n, hn⟩ : ∃ n, l.length = n := ⟨_, rfl⟩
      obtain ⟨D, hD⟩ : ∃ n, dimL l = n := ⟨_, rfl⟩
      rw [hn] at hl1 ⊢
      rw [hD] at HV c0
      have j0 : ((n : Int) == 0) = false := by simp; omega
      have j1 : (0 : Int) < n := by omega
      clear hcell hall hC e0 e1 h0 ht0 hvb hn hD
      go_enter Try.func70, Try.ntmps70
      go_wp2_with fail
      (with_reducible refine (HV.out _ (by (repeat (first | with_reducible exact Below.refl _ _ | with_reducible refine Bs ?_ | with_reducible refine Ba ?_ | with_reducible refine Bd ?_ | with_reducible refine Bn ?_)))).mono ?_)
      rintro e w1 ⟨rfl, rfl⟩
      go_wp2_with fail
      exact bodyPost_ret (v := .tuple #[.int .i64 0, .int .i64 80]) (by simp [results, Try.results70, go_sem]) rfl ⟨rfl, by (repeat (first | with_reducible exact Below.refl _ _ | with_reducible refine Bs ?_ | with_reducible refine Ba ?_ | with_reducible refine Bd ?_ | with_reducible refine Bn ?_))⟩
    | true =>
      have e0 : fsE l x = 0 := by unfold fsE; rw [if_neg h0, if_neg (by simp [hvb])]
      have e1 : fsV l x = sumV l x := by unfold fsV; rw [if_pos e0]
      rw [e0, e1]
      rw [sumE_L hC hall h0 hvb] at HSU
      simp only [if_true] at HSU
      rw [hvb] at HV
      obtain ⟨n, hn⟩ : ∃ n, l.length = n := ⟨_, rfl⟩
      obtain ⟨D, hD⟩ : ∃ n, dimL l = n := ⟨_, rfl⟩
      obtain ⟨SV, hSV⟩ : ∃ n, sumV l x = n := ⟨_, rfl⟩
      rw [hn] at hl1 HSU ⊢
      rw [hD] at HV c0
      rw [hSV] at HSU ⊢
      have j0 : ((n : Int) == 0) = false := by simp; omega
      have j1 : (0 : Int) < n := by omega
      clear hcell hall hC e0 e1 h0 ht0 hvb hn hD hSV
      go_enter Try.func70, Try.ntmps70
      go_wp2_with fail
      (with_reducible refine (HV.out _ (by (repeat (first | with_reducible exact Below.refl _ _ | with_reducible refine Bs ?_ | with_reducible refine Ba ?_ | with_reducible refine Bd ?_ | with_reducible refine Bn ?_)))).mono ?_)
      rintro e w1 ⟨rfl, rfl⟩
      go_wp2_with fail
      (with_reducible refine (HSU.out _ (by (repeat (first | with_reducible exact Below.refl _ _ | with_reducible refine Bs ?_ | with_reducible refine Ba ?_ | with_reducible refine Bd ?_ | with_reducible refine Bn ?_)))).mono ?_)
      rintro e w2 ⟨rfl, b2⟩
      go_wp2_with fail
      exact bodyPost_ret (v := .tuple #[.int .i64 SV, .int .i64 0]) (by simp [results, Try.results70, go_sem]) rfl ⟨rfl, b2⟩
end Go.Proofs.Ytjmjnkilgoelbaa
