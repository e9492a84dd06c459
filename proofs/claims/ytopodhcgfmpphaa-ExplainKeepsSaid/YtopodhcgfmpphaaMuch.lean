/-
  copseref10.Much of an argument; small slices made anew.
-/
import Derived.Test.YtopodhcgfmpphaaPathE
import Derived.Test.YtopodhcgfmpphaaArgTree
import Derived.Test.YtopodhcgfmpphaaSame01
namespace Go.Proofs.Ytopodhcgfmpphaa
open Go.RowKit

set_option maxHeartbeats 1000000 in
theorem rmuch_any (v : Value) (t : TreeP) (w : World) (h : ArgTree w v t) :
    Calls Try.prog 13 #[v] w fun e w' => e = .returned (.bool (muchN t.nodes)) ∧ Below w.heap.size w w' := by
  obtain ⟨nv, rfl, ad, cc, rfl, hc1, hc2, h⟩ := h
  have H := Lib.hid h
  have HN := Lib.hid (show muchN t.nodes = (decide (200 < t.nodes.length) || t.nodes.any fun n => decide (20 < n.coef.length)) from rfl)
  clear h
  obtain ⟨M, hM⟩ : ∃ M, muchN t.nodes = M := ⟨_, rfl⟩
  rw [hM] at HN ⊢
  clear hM
  obtain ⟨n, hn⟩ : ∃ n, t.nodes.length = n := ⟨_, rfl⟩
  rw [hn] at HN hc1 ⊢
  have HL := Lib.hid hn
  clear hn
  generalize t.dim = D at *
  have hnb : (n : Int) ≤ 9223372036854775807 := by omega
  by_cases h2 : 200 < n
  · have G := Lib.hid (show M = true by rw [HN.out]; simp [h2])
    have h3 : (200 : Int) < n := by omega
    go_enter Try.func13, Try.ntmps13
    go_wp2_with fail
    go_ret
    exact ⟨by rw [G.out]; rfl, by (repeat (first | with_reducible exact Below.refl _ _ | ((with_reducible refine Below.setCell ?_ ?_ _); rotate_left; (focus (first | omega | (simp; done) | (simp; omega)))) | ((with_reducible refine Below.alloc ?_ ?_ _); rotate_left; (focus (first | omega | (simp; done) | (simp; omega)))) | (with_reducible refine Below.drew ?_) | (with_reducible refine below_drewN ?_ _)))⟩
  · have h3 : (n : Int) ≤ 200 := by omega
    go_enter Try.func13, Try.ntmps13
    go_wp2_with fail
    go_loopw [3] (fun i wr => ∃ k : Nat, i = .int .i64 k ∧ k ≤ n ∧ (∀ j nd, j < k → t.nodes[j]? = some nd → nd.coef.length ≤ 20) ∧ wr = w.alloc (.cells #[.int .i64 D, .slice ad n cc] 24)) (fun i _ => n - (intOf i).toNat)
    case atStart => exact ⟨0, rfl, by omega, fun j nd h => by omega, rfl⟩
    case round =>
      obtain ⟨k, rfl, hk, hall, rfl⟩ := hrel
      have HA := Lib.hid hall
      clear hall
      by_cases hlt : k < n
      · obtain ⟨nd, hnd⟩ := getElem?_ex (l := t.nodes) (k := k) (by rw [HL.out]; exact hlt)
        obtain ⟨b, o, rfl, hb, cv, ⟨a', c', rfl, q1, q2, _⟩, g1, _⟩ := H.out k nd hnd
        have HND := Lib.hid hnd
        have i1 : (0 : Int) ≤ (k : Int) := by omega
        have i2 : (k : Int) < (n : Int) := by omega
        have hbz : b ≠ w.heap.size := by omega
        clear hnd
        obtain ⟨cl, hcl⟩ : ∃ cl, nd.coef.length = cl := ⟨_, rfl⟩
        rw [hcl] at g1 q1
        have HCL := Lib.hid hcl
        clear hcl
        by_cases h4 : 20 < cl
        · have G := Lib.hid (show M = true by
            rw [HN.out, Bool.or_eq_true, List.any_eq_true]
            exact .inr ⟨nd, List.mem_of_getElem? HND.out, by rw [HCL.out]; simp [h4]⟩)
          have h5 : (20 : Int) < cl := by omega
          go_wp2_with fail
          go_ret
          exact ⟨by rw [G.out]; rfl, by (repeat (first | with_reducible exact Below.refl _ _ | ((with_reducible refine Below.setCell ?_ ?_ _); rotate_left; (focus (first | omega | (simp; done) | (simp; omega)))) | ((with_reducible refine Below.alloc ?_ ?_ _); rotate_left; (focus (first | omega | (simp; done) | (simp; omega)))) | (with_reducible refine Below.drew ?_) | (with_reducible refine below_drewN ?_ _)))⟩
        · have h5 : (cl : Int) ≤ 20 := by omega
          go_wp2_with fail
          go_roundw
          case rel =>
            refine ⟨k + 1, by go_num, by omega, fun j nd' hj hnd' => ?_, trivial⟩
            rcases Nat.lt_or_ge j k with h | h
            · exact HA.out j nd' h hnd'
            · obtain rfl : j = k := by omega
              rw [HND.out] at hnd'
              injection hnd' with hnd'
              subst hnd'
              rw [HCL.out]
              omega
          case measure => simp [intOf] <;> omega
      · obtain rfl : k = n := by omega
        have G := Lib.hid (show M = false by
          rw [HN.out, Bool.or_eq_false_iff, List.any_eq_false]
          refine ⟨by simp; omega, fun nd hnd => ?_⟩
          obtain ⟨i, hi⟩ := List.getElem?_of_mem hnd
          have := HA.out i nd (by have := (List.getElem?_eq_some_iff.1 hi).1; have := HL.out; omega) hi
          simp; omega)
        go_wp2_with fail
        go_ret
        exact ⟨by rw [G.out]; rfl, by (repeat (first | with_reducible exact Below.refl _ _ | ((with_reducible refine Below.setCell ?_ ?_ _); rotate_left; (focus (first | omega | (simp; done) | (simp; omega)))) | ((with_reducible refine Below.alloc ?_ ?_ _); rotate_left; (focus (first | omega | (simp; done) | (simp; omega)))) | (with_reducible refine Below.drew ?_) | (with_reducible refine below_drewN ?_ _)))⟩

theorem same_self (va vb : Value) (l : List Int) (w : World) (ha : Ints .i64 w va l) (hb : Ints .i64 w vb l) :
    Calls Try.prog 19 #[va, vb] w fun e w' => e = .returned (.bool true) ∧ ∃ n, w' = w.drewN n := by
  have h := same_any va vb l l w ha hb
  rw [decide_eq_true rfl] at h
  exact h

theorem ints1 (z : Int) (W : World) (T : TypeId) (b : Nat) (hb : b = W.heap.size) : Ints .i64 (W.alloc (.cells #[.int .i64 z] T)) (.slice (some ⟨b, 0, none⟩) 1 1) [z] :=
  Ints.new' .i64 W T #[.int .i64 z] [z] b 1 1 hb rfl rfl (by omega) (by omega)
theorem ints2 (y z : Int) (W : World) (T : TypeId) (b : Nat) (hb : b = W.heap.size) : Ints .i64 (W.alloc (.cells #[.int .i64 y, .int .i64 z] T)) (.slice (some ⟨b, 0, none⟩) 2 2) [y, z] :=
  Ints.new' .i64 W T #[.int .i64 y, .int .i64 z] [y, z] b 2 2 hb rfl rfl (by omega) (by omega)
theorem trees2 (s : Value) (t : TreeP) (W : World) (T : TypeId) (b : Nat) (hb : b = W.heap.size) (h : NodesR W s t.nodes) (d : Int) (hd : t.dim = d) :
    TreesR (W.alloc (.cells #[.int .i64 d, s, .int .i64 d, s] T)) (.slice (some ⟨b, 0, none⟩) 2 2) [t, t] := by
  subst hb hd
  have hn := h.below (w' := W.alloc (.cells #[.int .i64 t.dim, s, .int .i64 t.dim, s] T)) ((Below.refl _ _).alloc (Nat.le_refl _) _)
  refine ⟨_, _, rfl, by simp, by decide, by simp, fun i t' hi => ?_⟩
  have hc : ∀ j (v : Value), #[.int .i64 t.dim, s, .int .i64 t.dim, s][j]? = some v → (W.alloc (.cells #[.int .i64 t.dim, s, .int .i64 t.dim, s] T)).cell? ⟨W.heap.size, j, none⟩ = some v := fun j v hj => by
    have hb := heap_alloc_new W (.cells #[.int .i64 t.dim, s, .int .i64 t.dim, s] T)
    simp only [World.cell?, hb]
    simpa using hj
  match i, hi with
  | 0, hi =>
    obtain rfl : t = t' := by simpa using hi
    exact ⟨_, _, s, rfl, by simp, hc 0 _ rfl, hc 1 _ rfl, hn⟩
  | 1, hi =>
    obtain rfl : t = t' := by simpa using hi
    exact ⟨_, _, s, rfl, by simp, hc 2 _ rfl, hc 3 _ rfl, hn⟩
  | i + 2, hi => simp at hi

theorem argInts_shape {w : World} {v : Value} {l : List Int} (h : ArgInts .i64 w v l) : ∃ a c, v = .slice a l.length c ∧ l.length ≤ c ∧ c ≤ 9223372036854775807 := by
  obtain ⟨a, c, e, h1, h2, _⟩ := h
  exact ⟨a, c, e, h1, h2⟩

end Go.Proofs.Ytopodhcgfmpphaa
