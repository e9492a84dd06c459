/-
  ItemN: Which ways to work are right: plain, and the walk of sched.Right.
-/
import Derived.Test.YtgobbecpnjelmaaGreatJ0b
import Derived.Laws.Tables
import Derived.Deep.MidRow
import Derived.Deep.Cut
namespace Go.Proofs.YtgobbecpnjelmaaGreat
open Go.RowKit

/-- The numbers of a way to work, each with its bounds. -/
def confRows (c0 c1 c2 c3 c4 c5 c6 c7 c8 c9 c10 : Int) : List (Int × Int × Int) :=
 [(c0, 1, 8), (c1, 2, 256), (c2, 1, 16), (c3, 2, min 64 c1), (c4, 1, 256), (c5, 1, 2), (c7, 2, 1000), (c6, 1, max c7 1 - 1), (c8, 1, 64), (c9, 1, 64), (c10, 1, 256)]

def inR (x : Int × Int × Int) : Bool := decide (x.2.1 ≤ x.1 ∧ x.1 ≤ x.2.2)

def confB11 (c0 c1 c2 c3 c4 c5 c6 c7 c8 c9 c10 : Int) : Bool := (confRows c0 c1 c2 c3 c4 c5 c6 c7 c8 c9 c10).all inR

theorem all_take_bad {α : Type} {p : α → Bool} {l : List α} {k : Nat} {x : α} (hx : l[k]? = some x) (hb : p x = false) : l.all p = false := by
 rw [List.all_eq_false]
 exact ⟨x, List.mem_of_getElem? hx, by simp [hb]⟩

theorem all_take_next {α : Type} {p : α → Bool} {l : List α} {k : Nat} {x : α} (hx : l[k]? = some x) (hp : (l.take k).all p = true) (hb : p x = true) : (l.take (k + 1)).all p = true := by
 rw [take_snoc' hx, List.all_append, hp]
 simp [hb]

theorem all_take_end {α : Type} {p : α → Bool} {l : List α} {k : Nat} (hk : l.length ≤ k) (hp : (l.take k).all p = true) : l.all p = true := by
 rwa [List.take_of_length_le hk] at hp

theorem Below.setCells {B : Nat} {a w : World} (b : Nat) (hb : B ≤ b) : ∀ (vs : List Value) (o : Nat) {w : World}, Below B a w → Below B a (w.setCells b o vs)
 | [], _, _, h => h
 | _ :: vs, o, _, h => Below.setCells b hb vs (o + 1) (w := w) (h.setCell hb _)

/-- Many cells are stored into a block just laid: what then stands there, and that all else is as it was. -/
theorem storeNew {P : Program} {ops : Array Oper} {rest : List Oper} {op : Oper} {a : Act} {Q : Exit → Act → World → Prop} (hgd : op.guard = none) (ty : TypeId) (x y : Operand) (ho : op.op = .store ty x y)
  {w0 : World} {T : TypeId} {zs cells : Array Value} (b : Nat) (hb : b = w0.heap.size) (hx : a.eval x = .pointer (some ⟨b, 0, none⟩)) (hy : a.eval y = .agg cells) (hn : zs.size = cells.size)
  (hi : (P.info? ty).map (·.size) = some cells.size) (h1 : cells.all (·.oneCell') = true)
  (h : ∀ w', Below w0.heap.size w0 w' → w0.heap.size < w'.heap.size → w'.rangeAt b 0 cells.toList → wpList P ops Q rest (a.put op.dst undef) w') : wpList P ops Q (op :: rest) a (w0.alloc (.cells zs T)) := by
 subst hb
 have hcell : ∀ j (hj : j < zs.size), (w0.alloc (.cells zs T)).cell? ⟨w0.heap.size, 0 + j, none⟩ = some zs[j] := fun j hj => by
  have hb := heap_alloc_new w0 (.cells zs T)
  simp only [World.cell?, hb]
  simp [hj]
 have ht : (w0.alloc (.cells zs T)).there w0.heap.size 0 cells.size := fun j hj => by
  refine ⟨by rw [hcell j (by omega)]; rfl, ?_⟩
  have hb := heap_alloc_new w0 (.cells zs T)
  simp only [World.frozen?, hb]
  rfl
 refine wpList_store_mid hgd ty x y ho _ 0 cells hx hy ht hi h1 (Shut.out h _ ?_ ?_ ?_)
 ·exact Below.setCells _ (Nat.le_refl _) _ _ (w := w0.alloc (.cells zs T)) (Ba (Below.refl _ _))
 ·have : Below 0 (w0.alloc (.cells zs T)) ((w0.alloc (.cells zs T)).setCells w0.heap.size 0 cells.toList) := Below.setCells _ (Nat.zero_le _) _ _ (w := w0.alloc (.cells zs T)) (Below.refl _ _)
  have := this.size
  simp at this
  omega
 ·exact World.rangeAt_setCells_same _ _ _ _ (by simpa using ht)

theorem buildArm {P : Program} {ops : Array Oper} {rest : List Oper} {o : Oper} {a : Act} {w : World} {Q : Exit → Act → World → Prop} (hgd : o.guard = none) (t : TypeId) (parts : Array (Nat × Operand)) (ho : o.op = .build t parts)
  (vs : List (Nat × Value)) (hv : (parts.map fun (i, x) => (i, a.eval x)).toList = vs) (cells : Array Value) (hb : P.built t vs = some cells) (h : wpList P ops Q rest (a.put o.dst (.agg cells)) w) : wpList P ops Q (o :: rest) a w := by
 refine wpList_plain hgd fun K hK => wp_build t parts ho (by rw [hv, hb]; rfl) ?_
 rw [hv, hb]
 exact hK _ _ h

set_option maxRecDepth 100000 in
set_option maxHeartbeats 16000000 in
theorem sright_any (c0 c1 c2 c3 c4 c5 c6 c7 c8 c9 c10 : Int) (w : World) (hw : Ok64 c7) :
  Calls Tryz.prog 30 #[.agg #[.int .i64 c0, .int .i64 c1, .int .i64 c2, .int .i64 c3, .int .i64 c4, .int .i64 c5, .int .i64 c6, .int .i64 c7, .int .i64 c8, .int .i64 c9, .int .i64 c10]] w fun e w' => e = .returned (.bool (confB11 c0 c1 c2 c3 c4 c5 c6 c7 c8 c9 c10)) ∧ Below w.heap.size w w' := by
 have hmx : 1 ≤ max c7 1 ∧ max c7 1 ≤ 9223372036854775807 := by unfold Ok64 at hw; omega
 obtain ⟨mx, hmx2⟩ : ∃ mx, max c7 1 = mx := ⟨_, rfl⟩
 obtain ⟨mn, hmn2⟩ : ∃ mn, min 64 c1 = mn := ⟨_, rfl⟩
 have HR0 := hH (show confB11 c0 c1 c2 c3 c4 c5 c6 c7 c8 c9 c10 = ([(c0, 1, 8), (c1, 2, 256), (c2, 1, 16), (c3, 2, mn), (c4, 1, 256), (c5, 1, 2), (c7, 2, 1000), (c6, 1, mx - 1), (c8, 1, 64), (c9, 1, 64), (c10, 1, 256)] : List (Int × Int × Int)).all inR by unfold confB11 confRows; rw [hmx2, hmn2])
 obtain ⟨L, hL⟩ : ∃ L, ([(c0, 1, 8), (c1, 2, 256), (c2, 1, 16), (c3, 2, mn), (c4, 1, 256), (c5, 1, 2), (c7, 2, 1000), (c6, 1, mx - 1), (c8, 1, 64), (c9, 1, 64), (c10, 1, 256)] : List (Int × Int × Int)) = L := ⟨_, rfl⟩
 rw [hL] at HR0
 have HLL := hH hL
 rw [hmx2] at hmx
 have e1 : wrap64 (mx - 1) = mx - 1 := by rw [IntWalk.wrap64_in _ (by omega)]
 have e2 : IntKind.i64.wrap (mx - 1) = mx - 1 := by rw [IntKind.wrap_i64]; omega
 obtain ⟨R, hR⟩ : ∃ R, confB11 c0 c1 c2 c3 c4 c5 c6 c7 c8 c9 c10 = R := ⟨_, rfl⟩
 rw [hR] at HR0 ⊢
 clear hR hL hw
 go_enter Tryz.func30, Tryz.ntmps30
 go_upto_region 1 with fail
 refine wp_region_lit ?_
 iterate 40 (refine seqTk (v := ?_) rfl ?_ ?_; rotate_left 2; (focus (first | (go_simp; done) | (go_simp; with_reducible rfl))); (try simp only [Act.put, List.setIfInBounds_toArray, List.set_cons_zero, List.set_cons_succ]))
 refine buildArm rfl 101 _ rfl [(0, .agg #[.int .i64 c0, .int .i64 1, .int .i64 8]), (1, .agg #[.int .i64 c1, .int .i64 2, .int .i64 256]), (2, .agg #[.int .i64 c2, .int .i64 1, .int .i64 16]), (3, .agg #[.int .i64 c3, .int .i64 2, .int .i64 mn]), (4, .agg #[.int .i64 c4, .int .i64 1, .int .i64 256]), (5, .agg #[.int .i64 c5, .int .i64 1, .int .i64 2]), (6, .agg #[.int .i64 c7, .int .i64 2, .int .i64 1000]), (7, .agg #[.int .i64 c6, .int .i64 1, .int .i64 (mx - 1)]), (8, .agg #[.int .i64 c8, .int .i64 1, .int .i64 64]), (9, .agg #[.int .i64 c9, .int .i64 1, .int .i64 64]), (10, .agg #[.int .i64 c10, .int .i64 1, .int .i64 256])] rJ #[.int .i64 c0, .int .i64 1, .int .i64 8, .int .i64 c1, .int .i64 2, .int .i64 256, .int .i64 c2, .int .i64 1, .int .i64 16, .int .i64 c3, .int .i64 2, .int .i64 mn, .int .i64 c4, .int .i64 1, .int .i64 256, .int .i64 c5, .int .i64 1, .int .i64 2, .int .i64 c7, .int .i64 2, .int .i64 1000, .int .i64 c6, .int .i64 1, .int .i64 (mx - 1), .int .i64 c8, .int .i64 1, .int .i64 64, .int .i64 c9, .int .i64 1, .int .i64 64, .int .i64 c10, .int .i64 1, .int .i64 256] rJ ?_
 (try simp only [Act.put, List.setIfInBounds_toArray, List.set_cons_zero, List.set_cons_succ])
 refine wpList_plain rfl fun K hK => ?_
 go_simp
 refine hK _ _ ?_
 clear hK K
 (try simp only [Act.put, List.setIfInBounds_toArray, List.set_cons_zero, List.set_cons_succ])
 refine storeNew rfl 101 _ _ rfl (w.heap.size + 1) (by simp) (by rfl) (by rfl) (by rfl) rJ rJ ?_
 intro w1 b1 hlt1 r1
 have B1 := hH b1; have R1 := hH r1; clear b1 r1
 (try simp only [Act.put])
 refine wpList_nil ?_
 go_upto_region 2 with fail
 refine wp_region_lit ?_
 refine wpList_load_mid rfl 101 _ rfl (w.heap.size + 1) 0 (by rfl) [.int .i64 c0, .int .i64 1, .int .i64 8, .int .i64 c1, .int .i64 2, .int .i64 256, .int .i64 c2, .int .i64 1, .int .i64 16, .int .i64 c3, .int .i64 2, .int .i64 mn, .int .i64 c4, .int .i64 1, .int .i64 256, .int .i64 c5, .int .i64 1, .int .i64 2, .int .i64 c7, .int .i64 2, .int .i64 1000, .int .i64 c6, .int .i64 1, .int .i64 (mx - 1), .int .i64 c8, .int .i64 1, .int .i64 64, .int .i64 c9, .int .i64 1, .int .i64 64, .int .i64 c10, .int .i64 1, .int .i64 256] _ R1.out Tryz.underlying101 rfl rJ ?_
 (try simp only [Act.put, List.setIfInBounds_toArray, List.set_cons_zero, List.set_cons_succ])
 go_wp2_with fail
 clear hmx2 hmn2
 go_loopw [51] (fun i wr => ∃ k : Nat, i = .int .i64 k ∧ k ≤ 11 ∧ (L.take k).all inR = true ∧ Below w.heap.size w wr) (fun i _ => 11 - (intOf i).toNat)
 case atStart => exact ⟨0, rfl, by omega, by simp, bx B1.out⟩
 case round =>
  obtain ⟨k, rfl, hk, hall, hbr⟩ := hrel
  have HA := hH hall
  have HBR := hH hbr
  have hsz := hbr.size
  clear hall hbr
  by_cases hlt : k < 11
  ·obtain rfl | rfl | rfl | rfl | rfl | rfl | rfl | rfl | rfl | rfl | rfl : k = 0 ∨ k = 1 ∨ k = 2 ∨ k = 3 ∨ k = 4 ∨ k = 5 ∨ k = 6 ∨ k = 7 ∨ k = 8 ∨ k = 9 ∨ k = 10 := by omega
   ·have HX := hH (show L[0]? = some (c0, 1, 8) by rw [← HLL.out]; rfl)
    by_cases hg : 1 ≤ c0 ∧ c0 ≤ 8
    ·have HN := hH (all_take_next HX.out HA.out (show inR (c0, 1, 8) = true from decide_eq_true hg))
     obtain ⟨g1, g2⟩ := hg
     go_upto_region 4 with fail; refine wp_region_lit ?_; refine seqTk (v := .agg #[.int .i64 c0, .int .i64 1, .int .i64 8]) rfl ?_ rJ; (try simp only [Act.put, List.setIfInBounds_toArray, List.set_cons_zero, List.set_cons_succ])
     go_wp2_with fail
     refine wp_region_held_drew (S := fun w' => w'.cell? ⟨wr.heap.size, 0, none⟩ = some (.int .i64 c0) ∧ w'.cell? ⟨wr.heap.size, 1, none⟩ = some (.int .i64 1) ∧ w'.cell? ⟨wr.heap.size, 2, none⟩ = some (.int .i64 8)) rJ kJ (fun hHeld => ?_); refine lJ 0 hHeld ?_; refine lJ 1 hHeld ?_; refine lJ 2 hHeld ?_; refine lJ 3 hHeld ?_; refine lJ 4 hHeld ?_; refine lJ 5 hHeld ?_; refine lJ 6 hHeld ?_; refine lJ 7 hHeld ?_; refine lJ 8 hHeld ?_; refine wpAnyH_done rJ ?_ _
     go_wp2_with fail
     go_roundw
     case rel => exact ⟨1, by go_num, by omega, HN.out, bx HBR.out⟩
     case measure => simp [intOf] <;> omega
    ·have HR := hH (HR0.out.trans (all_take_bad HX.out (show inR (c0, 1, 8) = false from decide_eq_false hg)))
     have hg2 : c0 < 1 ∨ (¬ c0 < 1 ∧ 8 < c0) := by omega
     clear hg
     rcases hg2 with hg2 | ⟨hg2, hg3⟩
     all_goals
      go_upto_region 4 with fail; refine wp_region_lit ?_; refine seqTk (v := .agg #[.int .i64 c0, .int .i64 1, .int .i64 8]) rfl ?_ rJ; (try simp only [Act.put, List.setIfInBounds_toArray, List.set_cons_zero, List.set_cons_succ])
      go_wp2_with fail
      refine wp_region_held_drew (S := fun w' => w'.cell? ⟨wr.heap.size, 0, none⟩ = some (.int .i64 c0) ∧ w'.cell? ⟨wr.heap.size, 1, none⟩ = some (.int .i64 1) ∧ w'.cell? ⟨wr.heap.size, 2, none⟩ = some (.int .i64 8)) rJ kJ (fun hHeld => ?_); refine lJ 0 hHeld ?_; refine lJ 1 hHeld ?_; refine lJ 2 hHeld ?_; refine lJ 3 hHeld ?_; refine lJ 4 hHeld ?_; refine lJ 5 hHeld ?_; refine lJ 6 hHeld ?_; refine lJ 7 hHeld ?_; refine lJ 8 hHeld ?_; refine wpAnyH_done rJ ?_ _
      go_wp2_with fail
      go_ret
      exact ⟨ret_bool HR.out.symm, bx HBR.out⟩
   ·have HX := hH (show L[1]? = some (c1, 2, 256) by rw [← HLL.out]; rfl)
    by_cases hg : 2 ≤ c1 ∧ c1 ≤ 256
    ·have HN := hH (all_take_next HX.out HA.out (show inR (c1, 2, 256) = true from decide_eq_true hg))
     obtain ⟨g1, g2⟩ := hg
     go_upto_region 4 with fail; refine wp_region_lit ?_; refine seqTk (v := .agg #[.int .i64 c1, .int .i64 2, .int .i64 256]) rfl ?_ rJ; (try simp only [Act.put, List.setIfInBounds_toArray, List.set_cons_zero, List.set_cons_succ])
     go_wp2_with fail
     refine wp_region_held_drew (S := fun w' => w'.cell? ⟨wr.heap.size, 0, none⟩ = some (.int .i64 c1) ∧ w'.cell? ⟨wr.heap.size, 1, none⟩ = some (.int .i64 2) ∧ w'.cell? ⟨wr.heap.size, 2, none⟩ = some (.int .i64 256)) rJ kJ (fun hHeld => ?_); refine lJ 0 hHeld ?_; refine lJ 1 hHeld ?_; refine lJ 2 hHeld ?_; refine lJ 3 hHeld ?_; refine lJ 4 hHeld ?_; refine lJ 5 hHeld ?_; refine lJ 6 hHeld ?_; refine lJ 7 hHeld ?_; refine lJ 8 hHeld ?_; refine wpAnyH_done rJ ?_ _
     go_wp2_with fail
     go_roundw
     case rel => exact ⟨2, by go_num, by omega, HN.out, bx HBR.out⟩
     case measure => simp [intOf] <;> omega
    ·have HR := hH (HR0.out.trans (all_take_bad HX.out (show inR (c1, 2, 256) = false from decide_eq_false hg)))
     have hg2 : c1 < 2 ∨ (¬ c1 < 2 ∧ 256 < c1) := by omega
     clear hg
     rcases hg2 with hg2 | ⟨hg2, hg3⟩
     all_goals
      go_upto_region 4 with fail; refine wp_region_lit ?_; refine seqTk (v := .agg #[.int .i64 c1, .int .i64 2, .int .i64 256]) rfl ?_ rJ; (try simp only [Act.put, List.setIfInBounds_toArray, List.set_cons_zero, List.set_cons_succ])
      go_wp2_with fail
      refine wp_region_held_drew (S := fun w' => w'.cell? ⟨wr.heap.size, 0, none⟩ = some (.int .i64 c1) ∧ w'.cell? ⟨wr.heap.size, 1, none⟩ = some (.int .i64 2) ∧ w'.cell? ⟨wr.heap.size, 2, none⟩ = some (.int .i64 256)) rJ kJ (fun hHeld => ?_); refine lJ 0 hHeld ?_; refine lJ 1 hHeld ?_; refine lJ 2 hHeld ?_; refine lJ 3 hHeld ?_; refine lJ 4 hHeld ?_; refine lJ 5 hHeld ?_; refine lJ 6 hHeld ?_; refine lJ 7 hHeld ?_; refine lJ 8 hHeld ?_; refine wpAnyH_done rJ ?_ _
      go_wp2_with fail
      go_ret
      exact ⟨ret_bool HR.out.symm, bx HBR.out⟩
   ·have HX := hH (show L[2]? = some (c2, 1, 16) by rw [← HLL.out]; rfl)
    by_cases hg : 1 ≤ c2 ∧ c2 ≤ 16
    ·have HN := hH (all_take_next HX.out HA.out (show inR (c2, 1, 16) = true from decide_eq_true hg))
     obtain ⟨g1, g2⟩ := hg
     go_upto_region 4 with fail; refine wp_region_lit ?_; refine seqTk (v := .agg #[.int .i64 c2, .int .i64 1, .int .i64 16]) rfl ?_ rJ; (try simp only [Act.put, List.setIfInBounds_toArray, List.set_cons_zero, List.set_cons_succ])
     go_wp2_with fail
     refine wp_region_held_drew (S := fun w' => w'.cell? ⟨wr.heap.size, 0, none⟩ = some (.int .i64 c2) ∧ w'.cell? ⟨wr.heap.size, 1, none⟩ = some (.int .i64 1) ∧ w'.cell? ⟨wr.heap.size, 2, none⟩ = some (.int .i64 16)) rJ kJ (fun hHeld => ?_); refine lJ 0 hHeld ?_; refine lJ 1 hHeld ?_; refine lJ 2 hHeld ?_; refine lJ 3 hHeld ?_; refine lJ 4 hHeld ?_; refine lJ 5 hHeld ?_; refine lJ 6 hHeld ?_; refine lJ 7 hHeld ?_; refine lJ 8 hHeld ?_; refine wpAnyH_done rJ ?_ _
     go_wp2_with fail
     go_roundw
     case rel => exact ⟨3, by go_num, by omega, HN.out, bx HBR.out⟩
     case measure => simp [intOf] <;> omega
    ·have HR := hH (HR0.out.trans (all_take_bad HX.out (show inR (c2, 1, 16) = false from decide_eq_false hg)))
     have hg2 : c2 < 1 ∨ (¬ c2 < 1 ∧ 16 < c2) := by omega
     clear hg
     rcases hg2 with hg2 | ⟨hg2, hg3⟩
     all_goals
      go_upto_region 4 with fail; refine wp_region_lit ?_; refine seqTk (v := .agg #[.int .i64 c2, .int .i64 1, .int .i64 16]) rfl ?_ rJ; (try simp only [Act.put, List.setIfInBounds_toArray, List.set_cons_zero, List.set_cons_succ])
      go_wp2_with fail
      refine wp_region_held_drew (S := fun w' => w'.cell? ⟨wr.heap.size, 0, none⟩ = some (.int .i64 c2) ∧ w'.cell? ⟨wr.heap.size, 1, none⟩ = some (.int .i64 1) ∧ w'.cell? ⟨wr.heap.size, 2, none⟩ = some (.int .i64 16)) rJ kJ (fun hHeld => ?_); refine lJ 0 hHeld ?_; refine lJ 1 hHeld ?_; refine lJ 2 hHeld ?_; refine lJ 3 hHeld ?_; refine lJ 4 hHeld ?_; refine lJ 5 hHeld ?_; refine lJ 6 hHeld ?_; refine lJ 7 hHeld ?_; refine lJ 8 hHeld ?_; refine wpAnyH_done rJ ?_ _
      go_wp2_with fail
      go_ret
      exact ⟨ret_bool HR.out.symm, bx HBR.out⟩
   ·have HX := hH (show L[3]? = some (c3, 2, mn) by rw [← HLL.out]; rfl)
    by_cases hg : 2 ≤ c3 ∧ c3 ≤ mn
    ·have HN := hH (all_take_next HX.out HA.out (show inR (c3, 2, mn) = true from decide_eq_true hg))
     obtain ⟨g1, g2⟩ := hg
     go_upto_region 4 with fail; refine wp_region_lit ?_; refine seqTk (v := .agg #[.int .i64 c3, .int .i64 2, .int .i64 mn]) rfl ?_ rJ; (try simp only [Act.put, List.setIfInBounds_toArray, List.set_cons_zero, List.set_cons_succ])
     go_wp2_with fail
     refine wp_region_held_drew (S := fun w' => w'.cell? ⟨wr.heap.size, 0, none⟩ = some (.int .i64 c3) ∧ w'.cell? ⟨wr.heap.size, 1, none⟩ = some (.int .i64 2) ∧ w'.cell? ⟨wr.heap.size, 2, none⟩ = some (.int .i64 mn)) rJ kJ (fun hHeld => ?_); refine lJ 0 hHeld ?_; refine lJ 1 hHeld ?_; refine lJ 2 hHeld ?_; refine lJ 3 hHeld ?_; refine lJ 4 hHeld ?_; refine lJ 5 hHeld ?_; refine lJ 6 hHeld ?_; refine lJ 7 hHeld ?_; refine lJ 8 hHeld ?_; refine wpAnyH_done rJ ?_ _
     go_wp2_with fail
     go_roundw
     case rel => exact ⟨4, by go_num, by omega, HN.out, bx HBR.out⟩
     case measure => simp [intOf] <;> omega
    ·have HR := hH (HR0.out.trans (all_take_bad HX.out (show inR (c3, 2, mn) = false from decide_eq_false hg)))
     have hg2 : c3 < 2 ∨ (¬ c3 < 2 ∧ mn < c3) := by omega
     clear hg
     rcases hg2 with hg2 | ⟨hg2, hg3⟩
     all_goals
      go_upto_region 4 with fail; refine wp_region_lit ?_; refine seqTk (v := .agg #[.int .i64 c3, .int .i64 2, .int .i64 mn]) rfl ?_ rJ; (try simp only [Act.put, List.setIfInBounds_toArray, List.set_cons_zero, List.set_cons_succ])
      go_wp2_with fail
      refine wp_region_held_drew (S := fun w' => w'.cell? ⟨wr.heap.size, 0, none⟩ = some (.int .i64 c3) ∧ w'.cell? ⟨wr.heap.size, 1, none⟩ = some (.int .i64 2) ∧ w'.cell? ⟨wr.heap.size, 2, none⟩ = some (.int .i64 mn)) rJ kJ (fun hHeld => ?_); refine lJ 0 hHeld ?_; refine lJ 1 hHeld ?_; refine lJ 2 hHeld ?_; refine lJ 3 hHeld ?_; refine lJ 4 hHeld ?_; refine lJ 5 hHeld ?_; refine lJ 6 hHeld ?_; refine lJ 7 hHeld ?_; refine lJ 8 hHeld ?_; refine wpAnyH_done rJ ?_ _
      go_wp2_with fail
      go_ret
      exact ⟨ret_bool HR.out.symm, bx HBR.out⟩
   ·have HX := hH (show L[4]? = some (c4, 1, 256) by rw [← HLL.out]; rfl)
    by_cases hg : 1 ≤ c4 ∧ c4 ≤ 256
    ·have HN := hH (all_take_next HX.out HA.out (show inR (c4, 1, 256) = true from decide_eq_true hg))
     obtain ⟨g1, g2⟩ := hg
     go_upto_region 4 with fail; refine wp_region_lit ?_; refine seqTk (v := .agg #[.int .i64 c4, .int .i64 1, .int .i64 256]) rfl ?_ rJ; (try simp only [Act.put, List.setIfInBounds_toArray, List.set_cons_zero, List.set_cons_succ])
     go_wp2_with fail
     refine wp_region_held_drew (S := fun w' => w'.cell? ⟨wr.heap.size, 0, none⟩ = some (.int .i64 c4) ∧ w'.cell? ⟨wr.heap.size, 1, none⟩ = some (.int .i64 1) ∧ w'.cell? ⟨wr.heap.size, 2, none⟩ = some (.int .i64 256)) rJ kJ (fun hHeld => ?_); refine lJ 0 hHeld ?_; refine lJ 1 hHeld ?_; refine lJ 2 hHeld ?_; refine lJ 3 hHeld ?_; refine lJ 4 hHeld ?_; refine lJ 5 hHeld ?_; refine lJ 6 hHeld ?_; refine lJ 7 hHeld ?_; refine lJ 8 hHeld ?_; refine wpAnyH_done rJ ?_ _
     go_wp2_with fail
     go_roundw
     case rel => exact ⟨5, by go_num, by omega, HN.out, bx HBR.out⟩
     case measure => simp [intOf] <;> omega
    ·have HR := hH (HR0.out.trans (all_take_bad HX.out (show inR (c4, 1, 256) = false from decide_eq_false hg)))
     have hg2 : c4 < 1 ∨ (¬ c4 < 1 ∧ 256 < c4) := by omega
     clear hg
     rcases hg2 with hg2 | ⟨hg2, hg3⟩
     all_goals
      go_upto_region 4 with fail; refine wp_region_lit ?_; refine seqTk (v := .agg #[.int .i64 c4, .int .i64 1, .int .i64 256]) rfl ?_ rJ; (try simp only [Act.put, List.setIfInBounds_toArray, List.set_cons_zero, List.set_cons_succ])
      go_wp2_with fail
      refine wp_region_held_drew (S := fun w' => w'.cell? ⟨wr.heap.size, 0, none⟩ = some (.int .i64 c4) ∧ w'.cell? ⟨wr.heap.size, 1, none⟩ = some (.int .i64 1) ∧ w'.cell? ⟨wr.heap.size, 2, none⟩ = some (.int .i64 256)) rJ kJ (fun hHeld => ?_); refine lJ 0 hHeld ?_; refine lJ 1 hHeld ?_; refine lJ 2 hHeld ?_; refine lJ 3 hHeld ?_; refine lJ 4 hHeld ?_; refine lJ 5 hHeld ?_; refine lJ 6 hHeld ?_; refine lJ 7 hHeld ?_; refine lJ 8 hHeld ?_; refine wpAnyH_done rJ ?_ _
      go_wp2_with fail
      go_ret
      exact ⟨ret_bool HR.out.symm, bx HBR.out⟩
   ·have HX := hH (show L[5]? = some (c5, 1, 2) by rw [← HLL.out]; rfl)
    by_cases hg : 1 ≤ c5 ∧ c5 ≤ 2
    ·have HN := hH (all_take_next HX.out HA.out (show inR (c5, 1, 2) = true from decide_eq_true hg))
     obtain ⟨g1, g2⟩ := hg
     go_upto_region 4 with fail; refine wp_region_lit ?_; refine seqTk (v := .agg #[.int .i64 c5, .int .i64 1, .int .i64 2]) rfl ?_ rJ; (try simp only [Act.put, List.setIfInBounds_toArray, List.set_cons_zero, List.set_cons_succ])
     go_wp2_with fail
     refine wp_region_held_drew (S := fun w' => w'.cell? ⟨wr.heap.size, 0, none⟩ = some (.int .i64 c5) ∧ w'.cell? ⟨wr.heap.size, 1, none⟩ = some (.int .i64 1) ∧ w'.cell? ⟨wr.heap.size, 2, none⟩ = some (.int .i64 2)) rJ kJ (fun hHeld => ?_); refine lJ 0 hHeld ?_; refine lJ 1 hHeld ?_; refine lJ 2 hHeld ?_; refine lJ 3 hHeld ?_; refine lJ 4 hHeld ?_; refine lJ 5 hHeld ?_; refine lJ 6 hHeld ?_; refine lJ 7 hHeld ?_; refine lJ 8 hHeld ?_; refine wpAnyH_done rJ ?_ _
     go_wp2_with fail
     go_roundw
     case rel => exact ⟨6, by go_num, by omega, HN.out, bx HBR.out⟩
     case measure => simp [intOf] <;> omega
    ·have HR := hH (HR0.out.trans (all_take_bad HX.out (show inR (c5, 1, 2) = false from decide_eq_false hg)))
     have hg2 : c5 < 1 ∨ (¬ c5 < 1 ∧ 2 < c5) := by omega
     clear hg
     rcases hg2 with hg2 | ⟨hg2, hg3⟩
     all_goals
      go_upto_region 4 with fail; refine wp_region_lit ?_; refine seqTk (v := .agg #[.int .i64 c5, .int .i64 1, .int .i64 2]) rfl ?_ rJ; (try simp only [Act.put, List.setIfInBounds_toArray, List.set_cons_zero, List.set_cons_succ])
      go_wp2_with fail
      refine wp_region_held_drew (S := fun w' => w'.cell? ⟨wr.heap.size, 0, none⟩ = some (.int .i64 c5) ∧ w'.cell? ⟨wr.heap.size, 1, none⟩ = some (.int .i64 1) ∧ w'.cell? ⟨wr.heap.size, 2, none⟩ = some (.int .i64 2)) rJ kJ (fun hHeld => ?_); refine lJ 0 hHeld ?_; refine lJ 1 hHeld ?_; refine lJ 2 hHeld ?_; refine lJ 3 hHeld ?_; refine lJ 4 hHeld ?_; refine lJ 5 hHeld ?_; refine lJ 6 hHeld ?_; refine lJ 7 hHeld ?_; refine lJ 8 hHeld ?_; refine wpAnyH_done rJ ?_ _
      go_wp2_with fail
      go_ret
      exact ⟨ret_bool HR.out.symm, bx HBR.out⟩
   ·have HX := hH (show L[6]? = some (c7, 2, 1000) by rw [← HLL.out]; rfl)
    by_cases hg : 2 ≤ c7 ∧ c7 ≤ 1000
    ·have HN := hH (all_take_next HX.out HA.out (show inR (c7, 2, 1000) = true from decide_eq_true hg))
     obtain ⟨g1, g2⟩ := hg
     go_upto_region 4 with fail; refine wp_region_lit ?_; refine seqTk (v := .agg #[.int .i64 c7, .int .i64 2, .int .i64 1000]) rfl ?_ rJ; (try simp only [Act.put, List.setIfInBounds_toArray, List.set_cons_zero, List.set_cons_succ])
     go_wp2_with fail
     refine wp_region_held_drew (S := fun w' => w'.cell? ⟨wr.heap.size, 0, none⟩ = some (.int .i64 c7) ∧ w'.cell? ⟨wr.heap.size, 1, none⟩ = some (.int .i64 2) ∧ w'.cell? ⟨wr.heap.size, 2, none⟩ = some (.int .i64 1000)) rJ kJ (fun hHeld => ?_); refine lJ 0 hHeld ?_; refine lJ 1 hHeld ?_; refine lJ 2 hHeld ?_; refine lJ 3 hHeld ?_; refine lJ 4 hHeld ?_; refine lJ 5 hHeld ?_; refine lJ 6 hHeld ?_; refine lJ 7 hHeld ?_; refine lJ 8 hHeld ?_; refine wpAnyH_done rJ ?_ _
     go_wp2_with fail
     go_roundw
     case rel => exact ⟨7, by go_num, by omega, HN.out, bx HBR.out⟩
     case measure => simp [intOf] <;> omega
    ·have HR := hH (HR0.out.trans (all_take_bad HX.out (show inR (c7, 2, 1000) = false from decide_eq_false hg)))
     have hg2 : c7 < 2 ∨ (¬ c7 < 2 ∧ 1000 < c7) := by omega
     clear hg
     rcases hg2 with hg2 | ⟨hg2, hg3⟩
     all_goals
      go_upto_region 4 with fail; refine wp_region_lit ?_; refine seqTk (v := .agg #[.int .i64 c7, .int .i64 2, .int .i64 1000]) rfl ?_ rJ; (try simp only [Act.put, List.setIfInBounds_toArray, List.set_cons_zero, List.set_cons_succ])
      go_wp2_with fail
      refine wp_region_held_drew (S := fun w' => w'.cell? ⟨wr.heap.size, 0, none⟩ = some (.int .i64 c7) ∧ w'.cell? ⟨wr.heap.size, 1, none⟩ = some (.int .i64 2) ∧ w'.cell? ⟨wr.heap.size, 2, none⟩ = some (.int .i64 1000)) rJ kJ (fun hHeld => ?_); refine lJ 0 hHeld ?_; refine lJ 1 hHeld ?_; refine lJ 2 hHeld ?_; refine lJ 3 hHeld ?_; refine lJ 4 hHeld ?_; refine lJ 5 hHeld ?_; refine lJ 6 hHeld ?_; refine lJ 7 hHeld ?_; refine lJ 8 hHeld ?_; refine wpAnyH_done rJ ?_ _
      go_wp2_with fail
      go_ret
      exact ⟨ret_bool HR.out.symm, bx HBR.out⟩
   ·have HX := hH (show L[7]? = some (c6, 1, (mx - 1)) by rw [← HLL.out]; rfl)
    by_cases hg : 1 ≤ c6 ∧ c6 ≤ (mx - 1)
    ·have HN := hH (all_take_next HX.out HA.out (show inR (c6, 1, (mx - 1)) = true from decide_eq_true hg))
     obtain ⟨g1, g2⟩ := hg
     go_upto_region 4 with fail; refine wp_region_lit ?_; refine seqTk (v := .agg #[.int .i64 c6, .int .i64 1, .int .i64 (mx - 1)]) rfl ?_ rJ; (try simp only [Act.put, List.setIfInBounds_toArray, List.set_cons_zero, List.set_cons_succ])
     go_wp2_with fail
     refine wp_region_held_drew (S := fun w' => w'.cell? ⟨wr.heap.size, 0, none⟩ = some (.int .i64 c6) ∧ w'.cell? ⟨wr.heap.size, 1, none⟩ = some (.int .i64 1) ∧ w'.cell? ⟨wr.heap.size, 2, none⟩ = some (.int .i64 (mx - 1))) rJ kJ (fun hHeld => ?_); refine lJ 0 hHeld ?_; refine lJ 1 hHeld ?_; refine lJ 2 hHeld ?_; refine lJ 3 hHeld ?_; refine lJ 4 hHeld ?_; refine lJ 5 hHeld ?_; refine lJ 6 hHeld ?_; refine lJ 7 hHeld ?_; refine lJ 8 hHeld ?_; refine wpAnyH_done rJ ?_ _
     go_wp2_with fail
     go_roundw
     case rel => exact ⟨8, by go_num, by omega, HN.out, bx HBR.out⟩
     case measure => simp [intOf] <;> omega
    ·have HR := hH (HR0.out.trans (all_take_bad HX.out (show inR (c6, 1, (mx - 1)) = false from decide_eq_false hg)))
     have hg2 : c6 < 1 ∨ (¬ c6 < 1 ∧ (mx - 1) < c6) := by omega
     clear hg
     rcases hg2 with hg2 | ⟨hg2, hg3⟩
     all_goals
      go_upto_region 4 with fail; refine wp_region_lit ?_; refine seqTk (v := .agg #[.int .i64 c6, .int .i64 1, .int .i64 (mx - 1)]) rfl ?_ rJ; (try simp only [Act.put, List.setIfInBounds_toArray, List.set_cons_zero, List.set_cons_succ])
      go_wp2_with fail
      refine wp_region_held_drew (S := fun w' => w'.cell? ⟨wr.heap.size, 0, none⟩ = some (.int .i64 c6) ∧ w'.cell? ⟨wr.heap.size, 1, none⟩ = some (.int .i64 1) ∧ w'.cell? ⟨wr.heap.size, 2, none⟩ = some (.int .i64 (mx - 1))) rJ kJ (fun hHeld => ?_); refine lJ 0 hHeld ?_; refine lJ 1 hHeld ?_; refine lJ 2 hHeld ?_; refine lJ 3 hHeld ?_; refine lJ 4 hHeld ?_; refine lJ 5 hHeld ?_; refine lJ 6 hHeld ?_; refine lJ 7 hHeld ?_; refine lJ 8 hHeld ?_; refine wpAnyH_done rJ ?_ _
      go_wp2_with fail
      go_ret
      exact ⟨ret_bool HR.out.symm, bx HBR.out⟩
   ·have HX := hH (show L[8]? = some (c8, 1, 64) by rw [← HLL.out]; rfl)
    by_cases hg : 1 ≤ c8 ∧ c8 ≤ 64
    ·have HN := hH (all_take_next HX.out HA.out (show inR (c8, 1, 64) = true from decide_eq_true hg))
     obtain ⟨g1, g2⟩ := hg
     go_upto_region 4 with fail; refine wp_region_lit ?_; refine seqTk (v := .agg #[.int .i64 c8, .int .i64 1, .int .i64 64]) rfl ?_ rJ; (try simp only [Act.put, List.setIfInBounds_toArray, List.set_cons_zero, List.set_cons_succ])
     go_wp2_with fail
     refine wp_region_held_drew (S := fun w' => w'.cell? ⟨wr.heap.size, 0, none⟩ = some (.int .i64 c8) ∧ w'.cell? ⟨wr.heap.size, 1, none⟩ = some (.int .i64 1) ∧ w'.cell? ⟨wr.heap.size, 2, none⟩ = some (.int .i64 64)) rJ kJ (fun hHeld => ?_); refine lJ 0 hHeld ?_; refine lJ 1 hHeld ?_; refine lJ 2 hHeld ?_; refine lJ 3 hHeld ?_; refine lJ 4 hHeld ?_; refine lJ 5 hHeld ?_; refine lJ 6 hHeld ?_; refine lJ 7 hHeld ?_; refine lJ 8 hHeld ?_; refine wpAnyH_done rJ ?_ _
     go_wp2_with fail
     go_roundw
     case rel => exact ⟨9, by go_num, by omega, HN.out, bx HBR.out⟩
     case measure => simp [intOf] <;> omega
    ·have HR := hH (HR0.out.trans (all_take_bad HX.out (show inR (c8, 1, 64) = false from decide_eq_false hg)))
     have hg2 : c8 < 1 ∨ (¬ c8 < 1 ∧ 64 < c8) := by omega
     clear hg
     rcases hg2 with hg2 | ⟨hg2, hg3⟩
     all_goals
      go_upto_region 4 with fail; refine wp_region_lit ?_; refine seqTk (v := .agg #[.int .i64 c8, .int .i64 1, .int .i64 64]) rfl ?_ rJ; (try simp only [Act.put, List.setIfInBounds_toArray, List.set_cons_zero, List.set_cons_succ])
      go_wp2_with fail
      refine wp_region_held_drew (S := fun w' => w'.cell? ⟨wr.heap.size, 0, none⟩ = some (.int .i64 c8) ∧ w'.cell? ⟨wr.heap.size, 1, none⟩ = some (.int .i64 1) ∧ w'.cell? ⟨wr.heap.size, 2, none⟩ = some (.int .i64 64)) rJ kJ (fun hHeld => ?_); refine lJ 0 hHeld ?_; refine lJ 1 hHeld ?_; refine lJ 2 hHeld ?_; refine lJ 3 hHeld ?_; refine lJ 4 hHeld ?_; refine lJ 5 hHeld ?_; refine lJ 6 hHeld ?_; refine lJ 7 hHeld ?_; refine lJ 8 hHeld ?_; refine wpAnyH_done rJ ?_ _
      go_wp2_with fail
      go_ret
      exact ⟨ret_bool HR.out.symm, bx HBR.out⟩
   ·have HX := hH (show L[9]? = some (c9, 1, 64) by rw [← HLL.out]; rfl)
    by_cases hg : 1 ≤ c9 ∧ c9 ≤ 64
    ·have HN := hH (all_take_next HX.out HA.out (show inR (c9, 1, 64) = true from decide_eq_true hg))
     obtain ⟨g1, g2⟩ := hg
     go_upto_region 4 with fail; refine wp_region_lit ?_; refine seqTk (v := .agg #[.int .i64 c9, .int .i64 1, .int .i64 64]) rfl ?_ rJ; (try simp only [Act.put, List.setIfInBounds_toArray, List.set_cons_zero, List.set_cons_succ])
     go_wp2_with fail
     refine wp_region_held_drew (S := fun w' => w'.cell? ⟨wr.heap.size, 0, none⟩ = some (.int .i64 c9) ∧ w'.cell? ⟨wr.heap.size, 1, none⟩ = some (.int .i64 1) ∧ w'.cell? ⟨wr.heap.size, 2, none⟩ = some (.int .i64 64)) rJ kJ (fun hHeld => ?_); refine lJ 0 hHeld ?_; refine lJ 1 hHeld ?_; refine lJ 2 hHeld ?_; refine lJ 3 hHeld ?_; refine lJ 4 hHeld ?_; refine lJ 5 hHeld ?_; refine lJ 6 hHeld ?_; refine lJ 7 hHeld ?_; refine lJ 8 hHeld ?_; refine wpAnyH_done rJ ?_ _
     go_wp2_with fail
     go_roundw
     case rel => exact ⟨10, by go_num, by omega, HN.out, bx HBR.out⟩
     case measure => simp [intOf] <;> omega
    ·have HR := hH (HR0.out.trans (all_take_bad HX.out (show inR (c9, 1, 64) = false from decide_eq_false hg)))
     have hg2 : c9 < 1 ∨ (¬ c9 < 1 ∧ 64 < c9) := by omega
     clear hg
     rcases hg2 with hg2 | ⟨hg2, hg3⟩
     all_goals
      go_upto_region 4 with fail; refine wp_region_lit ?_; refine seqTk (v := .agg #[.int .i64 c9, .int .i64 1, .int .i64 64]) rfl ?_ rJ; (try simp only [Act.put, List.setIfInBounds_toArray, List.set_cons_zero, List.set_cons_succ])
      go_wp2_with fail
      refine wp_region_held_drew (S := fun w' => w'.cell? ⟨wr.heap.size, 0, none⟩ = some (.int .i64 c9) ∧ w'.cell? ⟨wr.heap.size, 1, none⟩ = some (.int .i64 1) ∧ w'.cell? ⟨wr.heap.size, 2, none⟩ = some (.int .i64 64)) rJ kJ (fun hHeld => ?_); refine lJ 0 hHeld ?_; refine lJ 1 hHeld ?_; refine lJ 2 hHeld ?_; refine lJ 3 hHeld ?_; refine lJ 4 hHeld ?_; refine lJ 5 hHeld ?_; refine lJ 6 hHeld ?_; refine lJ 7 hHeld ?_; refine lJ 8 hHeld ?_; refine wpAnyH_done rJ ?_ _
      go_wp2_with fail
      go_ret
      exact ⟨ret_bool HR.out.symm, bx HBR.out⟩
   ·have HX := hH (show L[10]? = some (c10, 1, 256) by rw [← HLL.out]; rfl)
    by_cases hg : 1 ≤ c10 ∧ c10 ≤ 256
    ·have HN := hH (all_take_next HX.out HA.out (show inR (c10, 1, 256) = true from decide_eq_true hg))
     obtain ⟨g1, g2⟩ := hg
     go_upto_region 4 with fail; refine wp_region_lit ?_; refine seqTk (v := .agg #[.int .i64 c10, .int .i64 1, .int .i64 256]) rfl ?_ rJ; (try simp only [Act.put, List.setIfInBounds_toArray, List.set_cons_zero, List.set_cons_succ])
     go_wp2_with fail
     refine wp_region_held_drew (S := fun w' => w'.cell? ⟨wr.heap.size, 0, none⟩ = some (.int .i64 c10) ∧ w'.cell? ⟨wr.heap.size, 1, none⟩ = some (.int .i64 1) ∧ w'.cell? ⟨wr.heap.size, 2, none⟩ = some (.int .i64 256)) rJ kJ (fun hHeld => ?_); refine lJ 0 hHeld ?_; refine lJ 1 hHeld ?_; refine lJ 2 hHeld ?_; refine lJ 3 hHeld ?_; refine lJ 4 hHeld ?_; refine lJ 5 hHeld ?_; refine lJ 6 hHeld ?_; refine lJ 7 hHeld ?_; refine lJ 8 hHeld ?_; refine wpAnyH_done rJ ?_ _
     go_wp2_with fail
     go_roundw
     case rel => exact ⟨11, by go_num, by omega, HN.out, bx HBR.out⟩
     case measure => simp [intOf] <;> omega
    ·have HR := hH (HR0.out.trans (all_take_bad HX.out (show inR (c10, 1, 256) = false from decide_eq_false hg)))
     have hg2 : c10 < 1 ∨ (¬ c10 < 1 ∧ 256 < c10) := by omega
     clear hg
     rcases hg2 with hg2 | ⟨hg2, hg3⟩
     all_goals
      go_upto_region 4 with fail; refine wp_region_lit ?_; refine seqTk (v := .agg #[.int .i64 c10, .int .i64 1, .int .i64 256]) rfl ?_ rJ; (try simp only [Act.put, List.setIfInBounds_toArray, List.set_cons_zero, List.set_cons_succ])
      go_wp2_with fail
      refine wp_region_held_drew (S := fun w' => w'.cell? ⟨wr.heap.size, 0, none⟩ = some (.int .i64 c10) ∧ w'.cell? ⟨wr.heap.size, 1, none⟩ = some (.int .i64 1) ∧ w'.cell? ⟨wr.heap.size, 2, none⟩ = some (.int .i64 256)) rJ kJ (fun hHeld => ?_); refine lJ 0 hHeld ?_; refine lJ 1 hHeld ?_; refine lJ 2 hHeld ?_; refine lJ 3 hHeld ?_; refine lJ 4 hHeld ?_; refine lJ 5 hHeld ?_; refine lJ 6 hHeld ?_; refine lJ 7 hHeld ?_; refine lJ 8 hHeld ?_; refine wpAnyH_done rJ ?_ _
      go_wp2_with fail
      go_ret
      exact ⟨ret_bool HR.out.symm, bx HBR.out⟩
  ·obtain rfl : k = 11 := by omega
   have HE := hH (HR0.out.trans (all_take_end (by rw [← HLL.out]; exact Nat.le_refl _) HA.out))
   go_wp2_with fail
   go_ret
   exact ⟨ret_bool HE.out.symm, HBR.out⟩
end Go.Proofs.YtgobbecpnjelmaaGreat
