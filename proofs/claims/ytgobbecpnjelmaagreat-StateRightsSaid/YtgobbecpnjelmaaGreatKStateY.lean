/-
  StateY: Walks of state.Put and state.Get at the usual way to work, where nothing was taken.
-/
import Derived.Test.YtgobbecpnjelmaaGreatJ4a
import Derived.Test.YtgobbecpnjelmaaGreatJ1a
import Derived.Test.YtgobbecpnjelmaaGreatKItemT
import Derived.Test.YtgobbecpnjelmaaGreatKItemX
import Derived.Test.YtgobbecpnjelmaaGreatKForA
namespace Go.Proofs.YtgobbecpnjelmaaGreat
open Go.RowKit

def bytesU : List Int := [2, 16, 2, 8, 5, 1, 1, 10, 4, 3, 9, 0, 0, 0, 0, 0]

theorem bytesU_all : AllB bytesU := by
  intro x hx
  simp [bytesU] at hx
  omega

def headU (k : Nat) : List Int := [2, 16, 2, 8, 5, 1, 1, 10, 4, 3, 9] ++ List.replicate k 0

theorem putU_0 (v : Value) (l : List Int) (w : World) (h : Ints .u8 w v l) (hl : l.length ≤ 999990) : Calls Tryz.prog 50 #[v, .int .u64 0] w fun e w' => ∃ v', e = .returned v' ∧ OwnB w' w.heap.size v' (l ++ putsU 0) ∧ Below w.heap.size w w' := putU_any v l 0 w h hl (by decide)

theorem OwnB.lowerU {w : World} {B C : Nat} {v : Value} {l : List Int} (h : OwnB w B v l) (hC : C ≤ B) : OwnB w C v l := by
  refine ⟨h.1, ?_⟩
  rcases h.2 with h1 | ⟨g, cap, cur, e, h2, h3⟩
  · exact .inl h1
  · exact .inr ⟨g, cap, cur, e, Nat.le_trans hC h2, h3⟩

set_option maxRecDepth 100000 in
set_option maxHeartbeats 8000000 in
theorem putForest_u (w : World) : Calls Tryz.prog 52 #[.slice none 0 0, .slice none 0 0] w fun e w' => ∃ v', e = .returned v' ∧ Ints .u8 w' v' [0] ∧ Below w.heap.size w w' := by
  have HC := Lib.hid (fun W => isF_nilU ▸ fis_any (.slice none 0 0) [] W (growns_nilU _ _ (by omega)))
  go_enter Tryz.func52, Tryz.ntmps52
  go_wp2_with fail
  (with_reducible refine (clone8_any _ [] _ (ints_nil _ _ _ _ (by omega)) (by simp)).mono ?_)
  rintro e w1 ⟨v1, rfl, o1, b1⟩
  have O1 := Lib.hid (show OwnB w1 w.heap.size v1 [] by simpa [OwnB] using o1)
  have B1 := Lib.hid b1
  obtain ⟨a1, n1, c1, rfl⟩ := own_shape o1
  clear b1 o1
  go_wp2_with fail
  (with_reducible refine (HC.out _).mono ?_)
  rintro e w2 ⟨rfl, b2⟩
  have B2 := Lib.hid (show Below w.heap.size w w2 from B1.out.trans (b2.mono B1.out.size))
  have s2 := B2.out.size
  have O2 := Lib.hid (O1.out.below b2)
  clear b2
  go_wp2_with fail
  (with_reducible refine (putU_0 _ [] _ (O2.out.ints' (by simp)) (by simp)).mono ?_)
  rintro e w3 ⟨v3, rfl, o3, b3⟩
  have I3 := Lib.hid (show Ints .u8 w3 v3 [0] from o3.ints' (by simp [putsU]))
  have B3 := Lib.hid (show Below w.heap.size w w3 from B2.out.trans (b3.mono s2))
  obtain ⟨a3, n3, c3, rfl⟩ := own_shape o3
  clear b3 o3
  go_wp2_with fail
  go_loopw [5, 7, 21] (fun o _ idx wr => o = .slice a3 n3 c3 ∧ idx = .int .i64 0 ∧ w3 = wr) (fun _ _ _ _ => 0)
  case atStart => exact ⟨rfl, rfl, rfl⟩
  case round =>
    obtain ⟨rfl, rfl, rfl⟩ := hrel
    go_wp2_with fail
    go_ret
    exact ⟨_, rfl, I3.out, B3.out⟩

set_option maxRecDepth 100000 in
set_option maxHeartbeats 16000000 in
theorem sput_u (w : World) : Calls Tryz.prog 20 #[.agg #[.int .i64 2, .int .i64 16, .int .i64 2, .int .i64 8, .int .i64 5, .int .i64 1, .int .i64 1, .int .i64 10, .int .i64 4, .int .i64 3, .int .i64 9, .int .i64 0, .int .i64 0, .int .i64 0, .slice none 0 0, .slice none 0 0, .slice none 0 0]] w fun e w' => ∃ a c, e = .returned (.tuple #[.slice a 16 c, .int .i64 0]) ∧ Ints .u8 w' (.slice a 16 c) bytesU ∧ Below w.heap.size w w' := by
  have HR := Lib.hid (fun W => usual_S ▸ sright28_any 2 16 2 8 5 1 1 10 4 3 9 0 0 0 none none none 0 0 0 0 0 0 [] [] [] W (by decide) (seens_nil _ _ (by omega)) rfl (growns_nilU _ _ (by omega)) rfl (alerts_nil _ _ (by omega)) rfl)
  have HPC := Lib.hid (fun W => show Calls Tryz.prog 49 #[.slice none 0 0, .agg #[.int .i64 2, .int .i64 16, .int .i64 2, .int .i64 8, .int .i64 5, .int .i64 1, .int .i64 1, .int .i64 10, .int .i64 4, .int .i64 3, .int .i64 9]] W fun e w' => ∃ v', e = .returned v' ∧ Ints .u8 w' v' [2, 16, 2, 8, 5, 1, 1, 10, 4, 3, 9] ∧ Below W.heap.size W w' from by
    have := putConf_any (.slice none 0 0) [] 2 16 2 8 5 1 1 10 4 3 9 W (by decide) (ints_nil _ _ _ _ (by omega)) (by simp)
    rw [List.nil_append, show confBytes 2 16 2 8 5 1 1 10 4 3 9 = [2, 16, 2, 8, 5, 1, 1, 10, 4, 3, 9] from by unfold confBytes; rw [usual_B, if_pos rfl]; rfl] at this
    exact this)
  have HPF := Lib.hid (fun W => putForest_u W)
  go_enter Tryz.func20, Tryz.ntmps20
  go_upto_region 1 with fail
  have R0 := Lib.hid (rowz_new (W := w) (T := 28) (cs := #[.int .i64 2, .int .i64 16, .int .i64 2, .int .i64 8, .int .i64 5, .int .i64 1, .int .i64 1, .int .i64 10, .int .i64 4, .int .i64 3, .int .i64 9, .int .i64 0, .int .i64 0, .int .i64 0, .slice none 0 0, .slice none 0 0, .slice none 0 0]) rfl)
  refine wp_region_lit ?_
  refine loadRow rfl 28 _ rfl R0.out (by rfl) Tryz.underlying28 rfl (by kernel_rfl) ?_
  (try simp only [Act.put, List.setIfInBounds_toArray, List.set_cons_zero, List.set_cons_succ])
  go_wp2_with fail
  (with_reducible refine (HR.out _).mono ?_); rintro e w1 ⟨rfl, b1⟩; have s1 : w.heap.size + 1 ≤ w1.heap.size := sz b1; have B1 := Lib.hid (Bc (B := w.heap.size) (a := w) bw b1); have c1_0 : w1.cell? ⟨w.heap.size, 0, none⟩ = some (.int .i64 2) := kC b1; have c1_1 : w1.cell? ⟨w.heap.size, 1, none⟩ = some (.int .i64 16) := kC b1; have c1_2 : w1.cell? ⟨w.heap.size, 2, none⟩ = some (.int .i64 2) := kC b1; have c1_3 : w1.cell? ⟨w.heap.size, 3, none⟩ = some (.int .i64 8) := kC b1; have c1_4 : w1.cell? ⟨w.heap.size, 4, none⟩ = some (.int .i64 5) := kC b1; have c1_5 : w1.cell? ⟨w.heap.size, 5, none⟩ = some (.int .i64 1) := kC b1; have c1_6 : w1.cell? ⟨w.heap.size, 6, none⟩ = some (.int .i64 1) := kC b1; have c1_7 : w1.cell? ⟨w.heap.size, 7, none⟩ = some (.int .i64 10) := kC b1; have c1_8 : w1.cell? ⟨w.heap.size, 8, none⟩ = some (.int .i64 4) := kC b1; have c1_9 : w1.cell? ⟨w.heap.size, 9, none⟩ = some (.int .i64 3) := kC b1; have c1_10 : w1.cell? ⟨w.heap.size, 10, none⟩ = some (.int .i64 9) := kC b1; have c1_11 : w1.cell? ⟨w.heap.size, 11, none⟩ = some (.int .i64 0) := kC b1; have c1_12 : w1.cell? ⟨w.heap.size, 12, none⟩ = some (.int .i64 0) := kC b1; have c1_13 : w1.cell? ⟨w.heap.size, 13, none⟩ = some (.int .i64 0) := kC b1; have c1_14 : w1.cell? ⟨w.heap.size, 14, none⟩ = some (.slice none 0 0) := kC b1; have c1_15 : w1.cell? ⟨w.heap.size, 15, none⟩ = some (.slice none 0 0) := kC b1; have c1_16 : w1.cell? ⟨w.heap.size, 16, none⟩ = some (.slice none 0 0) := kC b1; obtain ⟨l1_0, n1_0, m1_0⟩ := lnm (show w.heap.size < w1.heap.size by omega); clear b1
  go_wp2_with fail
  (with_reducible refine (HPC.out _).mono ?_); rintro e w2 ⟨v2, rfl, i2, b2⟩; have s2 : w1.heap.size ≤ w2.heap.size := sz b2; have B2 := Lib.hid (Bc (B := w.heap.size) (a := w) (bx B1.out) b2); have c2_0 : w2.cell? ⟨w.heap.size, 0, none⟩ = some (.int .i64 2) := kC b2; have c2_1 : w2.cell? ⟨w.heap.size, 1, none⟩ = some (.int .i64 16) := kC b2; have c2_2 : w2.cell? ⟨w.heap.size, 2, none⟩ = some (.int .i64 2) := kC b2; have c2_3 : w2.cell? ⟨w.heap.size, 3, none⟩ = some (.int .i64 8) := kC b2; have c2_4 : w2.cell? ⟨w.heap.size, 4, none⟩ = some (.int .i64 5) := kC b2; have c2_5 : w2.cell? ⟨w.heap.size, 5, none⟩ = some (.int .i64 1) := kC b2; have c2_6 : w2.cell? ⟨w.heap.size, 6, none⟩ = some (.int .i64 1) := kC b2; have c2_7 : w2.cell? ⟨w.heap.size, 7, none⟩ = some (.int .i64 10) := kC b2; have c2_8 : w2.cell? ⟨w.heap.size, 8, none⟩ = some (.int .i64 4) := kC b2; have c2_9 : w2.cell? ⟨w.heap.size, 9, none⟩ = some (.int .i64 3) := kC b2; have c2_10 : w2.cell? ⟨w.heap.size, 10, none⟩ = some (.int .i64 9) := kC b2; have c2_11 : w2.cell? ⟨w.heap.size, 11, none⟩ = some (.int .i64 0) := kC b2; have c2_12 : w2.cell? ⟨w.heap.size, 12, none⟩ = some (.int .i64 0) := kC b2; have c2_13 : w2.cell? ⟨w.heap.size, 13, none⟩ = some (.int .i64 0) := kC b2; have c2_14 : w2.cell? ⟨w.heap.size, 14, none⟩ = some (.slice none 0 0) := kC b2; have c2_15 : w2.cell? ⟨w.heap.size, 15, none⟩ = some (.slice none 0 0) := kC b2; have c2_16 : w2.cell? ⟨w.heap.size, 16, none⟩ = some (.slice none 0 0) := kC b2; obtain ⟨l2_0, n2_0, m2_0⟩ := lnm (show w.heap.size < w2.heap.size by omega); clear b2
  have I2 := Lib.hid i2
  obtain ⟨pa, pc, rfl⟩ := i2.shape
  clear i2
  go_wp2_with fail
  go_loopw [4, 6, 25] (fun b _ i wr => ∃ k : Nat, i = .int .i64 (k : Int) ∧ k ≤ 3 ∧ Ints .u8 wr b (headU k) ∧ (1 ≤ k → OwnB wr w2.heap.size b (headU k)) ∧ Below w2.heap.size w2 wr ∧ w2.heap.size < wr.heap.size ∧ wr.cell? ⟨w2.heap.size, 0, none⟩ = some (.int .i64 0) ∧ wr.cell? ⟨w2.heap.size, 1, none⟩ = some (.int .i64 0) ∧ wr.cell? ⟨w2.heap.size, 2, none⟩ = some (.int .i64 0)) (fun _ _ i _ => 3 - (intOf i).toNat)
  case atStart => exact ⟨0, rfl, by omega, I2.out.below bw, by omega, bw, by simp, by go_simp, by go_simp, by go_simp⟩
  case round =>
    obtain ⟨k, rfl, hk, hi, ho, hbi, zj, k1, k2, k3⟩ := hrel
    rename World => wi
    have HI := Lib.hid hi
    have HO := Lib.hid ho
    have BI := Lib.hid hbi
    have zi := hbi.size
    obtain ⟨ba, bc, rfl⟩ := hi.shape
    obtain ⟨bl, hbl⟩ : ∃ bl, (headU k).length = bl := ⟨_, rfl⟩
    rw [hbl] at HI HO ⊢
    have HBL := Lib.hid hbl
    clear hi ho hbl
    obtain rfl | rfl | rfl | rfl : k = 0 ∨ k = 1 ∨ k = 2 ∨ k = 3 := by omega
    · go_wp2_with fail
      (with_reducible refine (putU_0 _ _ _ HI.out (by decide)).mono ?_)
      rintro e w4 ⟨v4, rfl, o4, b4⟩
      have O4 := Lib.hid (show OwnB w4 w2.heap.size v4 (headU 1) from by
        refine OwnB.lowerU ?_ (show w2.heap.size ≤ _ from zi)
        exact o4)
      have B4 := Lib.hid (show Below w2.heap.size w2 w4 from BI.out.trans (b4.mono BI.out.size))
      have z4 := b4.size
      obtain ⟨k4, k5, k6⟩ : w4.cell? ⟨w2.heap.size, 0, none⟩ = some (.int .i64 0) ∧ w4.cell? ⟨w2.heap.size, 1, none⟩ = some (.int .i64 0) ∧ w4.cell? ⟨w2.heap.size, 2, none⟩ = some (.int .i64 0) := ⟨(b4.cell (p := ⟨w2.heap.size, 0, none⟩) zj).trans k1, (b4.cell (p := ⟨w2.heap.size, 1, none⟩) zj).trans k2, (b4.cell (p := ⟨w2.heap.size, 2, none⟩) zj).trans k3⟩
      clear o4 b4
      go_wp2_with fail
      go_roundw
      case rel => exact ⟨1, by go_num, by omega, O4.out.ints' (by decide), fun _ => O4.out, B4.out, by omega, k4, k5, k6⟩
      case measure => simp [intOf] <;> omega
    · go_wp2_with fail
      (with_reducible refine (putU_0 _ _ _ HI.out (by decide)).mono ?_)
      rintro e w4 ⟨v4, rfl, o4, b4⟩
      have O4 := Lib.hid (show OwnB w4 w2.heap.size v4 (headU 2) from by
        refine OwnB.lowerU ?_ (show w2.heap.size ≤ _ from zi)
        exact o4)
      have B4 := Lib.hid (show Below w2.heap.size w2 w4 from BI.out.trans (b4.mono BI.out.size))
      have z4 := b4.size
      obtain ⟨k4, k5, k6⟩ : w4.cell? ⟨w2.heap.size, 0, none⟩ = some (.int .i64 0) ∧ w4.cell? ⟨w2.heap.size, 1, none⟩ = some (.int .i64 0) ∧ w4.cell? ⟨w2.heap.size, 2, none⟩ = some (.int .i64 0) := ⟨(b4.cell (p := ⟨w2.heap.size, 0, none⟩) zj).trans k1, (b4.cell (p := ⟨w2.heap.size, 1, none⟩) zj).trans k2, (b4.cell (p := ⟨w2.heap.size, 2, none⟩) zj).trans k3⟩
      clear o4 b4
      go_wp2_with fail
      go_roundw
      case rel => exact ⟨2, by go_num, by omega, O4.out.ints' (by decide), fun _ => O4.out, B4.out, by omega, k4, k5, k6⟩
      case measure => simp [intOf] <;> omega
    · go_wp2_with fail
      (with_reducible refine (putU_0 _ _ _ HI.out (by decide)).mono ?_)
      rintro e w4 ⟨v4, rfl, o4, b4⟩
      have O4 := Lib.hid (show OwnB w4 w2.heap.size v4 (headU 3) from by
        refine OwnB.lowerU ?_ (show w2.heap.size ≤ _ from zi)
        exact o4)
      have B4 := Lib.hid (show Below w2.heap.size w2 w4 from BI.out.trans (b4.mono BI.out.size))
      have z4 := b4.size
      obtain ⟨k4, k5, k6⟩ : w4.cell? ⟨w2.heap.size, 0, none⟩ = some (.int .i64 0) ∧ w4.cell? ⟨w2.heap.size, 1, none⟩ = some (.int .i64 0) ∧ w4.cell? ⟨w2.heap.size, 2, none⟩ = some (.int .i64 0) := ⟨(b4.cell (p := ⟨w2.heap.size, 0, none⟩) zj).trans k1, (b4.cell (p := ⟨w2.heap.size, 1, none⟩) zj).trans k2, (b4.cell (p := ⟨w2.heap.size, 2, none⟩) zj).trans k3⟩
      clear o4 b4
      go_wp2_with fail
      go_roundw
      case rel => exact ⟨3, by go_num, by omega, O4.out.ints' (by decide), fun _ => O4.out, B4.out, by omega, k4, k5, k6⟩
      case measure => simp [intOf] <;> omega
    · have hb3 := hbi
      have HOW := Lib.hid (show OwnB wi w2.heap.size _ (headU 3) from HO.out (by omega))
      have B3 := Lib.hid (show Below w.heap.size w wi from B2.out.trans (hb3.mono B2.out.size))
      obtain rfl : bl = 14 := HBL.out.symm
      rename World => w3
      (have c3_0 : w3.cell? ⟨w.heap.size, 14, none⟩ = some (.slice none 0 0) := kC hb3); (have c3_1 : w3.cell? ⟨w.heap.size, 15, none⟩ = some (.slice none 0 0) := kC hb3); (have c3_2 : w3.cell? ⟨w.heap.size, 16, none⟩ = some (.slice none 0 0) := kC hb3); (obtain ⟨l3_0, n3_0, m3_0⟩ := lnm (show w.heap.size < w3.heap.size by first | omega | (simp at y3; omega)))
      clear hbi hb3 k1 k2 k3 BI zj hk HI HO HBL
      rw [show ((3 : Nat) : Int) = 3 from rfl]
      go_wp2_with fail
      go_loopw [4, 8, 37] (fun b _ i wr => b = .slice ba 14 bc ∧ i = .int .i64 0 ∧ w3 = wr) (fun _ _ _ _ => 0)
      case atStart => exact ⟨rfl, rfl, rfl⟩
      case round =>
        obtain ⟨rfl, rfl, rfl⟩ := hrel
        go_wp2_with fail
        (with_reducible refine (HPF.out _).mono ?_); rintro e w5 ⟨v5, rfl, i5, b5⟩; have s5 : w3.heap.size ≤ w5.heap.size := sz b5; have B5 := Lib.hid (Bc (B := w.heap.size) (a := w) (bx B3.out) b5); have c5_0 : w5.cell? ⟨w.heap.size, 14, none⟩ = some (.slice none 0 0) := kC b5; have c5_1 : w5.cell? ⟨w.heap.size, 15, none⟩ = some (.slice none 0 0) := kC b5; have c5_2 : w5.cell? ⟨w.heap.size, 16, none⟩ = some (.slice none 0 0) := kC b5; obtain ⟨l5_0, n5_0, m5_0⟩ := lnm (show w.heap.size < w5.heap.size by omega); have HOW := Lib.hid (own_keep (by (repeat (first | with_reducible exact HOW.out | with_reducible refine own_set ?_ (by first | omega | (simp; done) | (simp; omega)) | with_reducible refine own_drew ?_ | with_reducible refine World.ownsRow.alloc ?_ _ | exact HOW.out))) (fun g _ hg => b5.block g hg)); clear b5
        have I5 := Lib.hid i5
        clear i5
        go_wp2_with (at_builtin; go_must (refine appInts rfl _ _ 45 rfl Tryz.underlying45 eiU8 w2.heap.size (by rfl) HOW.out (by rfl) I5.out (by simp [headU]) (by omega) ?_))
        intro v6 w6 o6 b6 _
        have O6 := Lib.hid (show OwnB w6 w2.heap.size v6 ([2, 16, 2, 8, 5, 1, 1, 10, 4, 3, 9] ++ [0, 0, 0, 0]) from o6)
        have B6 := Lib.hid (show Below w.heap.size w w6 from below_tr B5.out (b6.mono (by omega)))
        have z6 : w5.heap.size ≤ w6.heap.size := b6.size
        (have c6_0 : w6.cell? ⟨w.heap.size, 16, none⟩ = some (.slice none 0 0) := kC b6); (obtain ⟨l6_0, n6_0, m6_0⟩ := lnm (show w.heap.size < w6.heap.size by omega))
        obtain ⟨oa, om, oc, rfl⟩ := own_shape o6
        clear o6 b6
        go_wp2_with fail
        (with_reducible refine (putU_0 _ ([2, 16, 2, 8, 5, 1, 1, 10, 4, 3, 9] ++ [0, 0, 0, 0]) _ (O6.out.ints' (by simp)) (by simp)).mono ?_)
        rintro e w7 ⟨v7, rfl, o7, b7⟩
        have I7 := Lib.hid (show Ints .u8 w7 v7 bytesU from o7.ints' (by simp [putsU]))
        have B7 := Lib.hid (show Below w.heap.size w w7 from below_tr B6.out (b7.mono (by omega)))
        have z7 : w6.heap.size ≤ w7.heap.size := b7.size
        (have c7_0 : w7.cell? ⟨w.heap.size, 16, none⟩ = some (.slice none 0 0) := kC b7); (obtain ⟨l7_0, n7_0, m7_0⟩ := lnm (show w.heap.size < w7.heap.size by omega))
        obtain ⟨ra, rc, rfl⟩ := I7.out.shape
        clear o7 b7
        go_wp2_with fail
        go_loopw [4, 10, 63] (fun b _ i wr => b = .slice ra bytesU.length rc ∧ i = .int .i64 0 ∧ w7 = wr) (fun _ _ _ _ => 0)
        case atStart => exact ⟨rfl, rfl, rfl⟩
        case round =>
          obtain ⟨rfl, rfl, rfl⟩ := hrel
          go_wp2_with fail
          exact bodyPost_ret (v := .tuple #[.slice ra bytesU.length rc, .int .i64 0]) (by simp [results, Tryz.results20, go_sem]) rfl ⟨ra, rc, rfl, I7.out, B7.out⟩

set_option maxRecDepth 100000 in
set_option maxHeartbeats 8000000 in
theorem sput_one (w : World) : Calls Tryz.prog 20 #[.agg #[.int .i64 2, .int .i64 16, .int .i64 2, .int .i64 8, .int .i64 5, .int .i64 1, .int .i64 1, .int .i64 10, .int .i64 4, .int .i64 3, .int .i64 9, .int .i64 1, .int .i64 0, .int .i64 0, .slice none 0 0, .slice none 0 0, .slice none 0 0]] w fun e w' => e = .returned (.tuple #[.slice none 0 0, .int .i64 280]) ∧ Below w.heap.size w w' := by
  have HR := Lib.hid (fun W => usual_O ▸ sright28_any 2 16 2 8 5 1 1 10 4 3 9 1 0 0 none none none 0 0 0 0 0 0 [] [] [] W (by decide) (seens_nil _ _ (by omega)) rfl (growns_nilU _ _ (by omega)) rfl (alerts_nil _ _ (by omega)) rfl)
  go_enter Tryz.func20, Tryz.ntmps20
  go_upto_region 1 with fail
  have R0 := Lib.hid (rowz_new (W := w) (T := 28) (cs := #[.int .i64 2, .int .i64 16, .int .i64 2, .int .i64 8, .int .i64 5, .int .i64 1, .int .i64 1, .int .i64 10, .int .i64 4, .int .i64 3, .int .i64 9, .int .i64 1, .int .i64 0, .int .i64 0, .slice none 0 0, .slice none 0 0, .slice none 0 0]) rfl)
  refine wp_region_lit ?_
  refine loadRow rfl 28 _ rfl R0.out (by rfl) Tryz.underlying28 rfl (by kernel_rfl) ?_
  (try simp only [Act.put, List.setIfInBounds_toArray, List.set_cons_zero, List.set_cons_succ])
  go_wp2_with fail
  (with_reducible refine (HR.out _).mono ?_); rintro e w1 ⟨rfl, b1⟩; have s1 : w.heap.size + 1 ≤ w1.heap.size := sz b1; have B1 := Lib.hid (Bc (B := w.heap.size) (a := w) bw b1); clear b1
  go_wp2_with fail
  exact bodyPost_ret (v := .tuple #[.slice none 0 0, .int .i64 280]) (by simp [results, Tryz.results20, go_sem]) rfl ⟨rfl, bx B1.out⟩

set_option maxRecDepth 100000 in
set_option maxHeartbeats 8000000 in
theorem getForest_u {w : World} {R : Nat} {v : Value} (h : Rd w R v bytesU 14 0) :
    Calls Tryz.prog 64 #[.pointer (some ⟨R, 0, none⟩)] w fun e' w' => e' = .returned (.slice none 0 0) ∧ RdTo w R v bytesU w' 15 0 := by
  have H := Lib.hid h
  have hR := h.lt
  have HN := Lib.hid (show Calls Tryz.prog 61 #[.pointer (some ⟨R, 0, none⟩), .int .i64 16] w fun e' w' => e' = .returned (.int .i64 0) ∧ RdTo w R v bytesU w' 15 0 from
    rdN_call bytesU_all (by decide) (by decide) 16 (by decide) 0 15 0 (by rfl) h)
  have HC := Lib.hid (fun W => isF_nilU ▸ fis_any (.slice none 0 0) [] W (growns_nilU _ _ (by omega)))
  clear h
  go_enter Tryz.func64, Tryz.ntmps64
  go_wp2_with fail
  (with_reducible refine (HN.out).mono ?_); rintro e w1 ⟨rfl, r1⟩; have gg1 := r1.2; have T1 := Lib.hid (RdTo.from (w := w) (show Below w.heap.size w _ from bw) r1); have y1 := gg1.size; have x1 := T1.out.2.size; clear r1 gg1
  go_wp2_with fail
  go_loopw [3, 4, 5] (fun fv nv _ wr => fv = .slice none 0 0 ∧ nv = .int .i64 0 ∧ w1 = wr) (fun _ _ _ _ => 0)
  case atStart => exact ⟨rfl, rfl, rfl⟩
  case round =>
    obtain ⟨rfl, rfl, rfl⟩ := hrel
    go_wp2_with fail
    refine (err_any (T1.out.rd.below bw)).mono ?_
    rintro e3 w3 ⟨rfl, rfl⟩
    go_wp2_with fail
    (with_reducible refine (HC.out _).mono ?_)
    rintro e3 w3 ⟨rfl, b3⟩
    have T3 := Lib.hid (RdTo.belowB H.out T1.out (Bc (B := w.heap.size) bw b3))
    clear b3
    go_wp2_with fail
    refine (err_any (T3.out.rd.below bw)).mono ?_
    rintro e3 w4 ⟨rfl, rfl⟩
    go_wp2_with fail
    go_ret
    exact ⟨rfl, RdTo.belowB H.out T3.out bw⟩

set_option maxRecDepth 100000 in
set_option maxHeartbeats 32000000 in
theorem sget_u (a0 : Option Addr) (q0 : Nat) (w0 : World) (hv : Ints .u8 w0 (.slice a0 16 q0) bytesU) :
    Calls Tryz.prog 23 #[.slice a0 16 q0] w0 fun e w' => e = .returned (.tuple #[.agg #[.int .i64 2, .int .i64 16, .int .i64 2, .int .i64 8, .int .i64 5, .int .i64 1, .int .i64 1, .int .i64 10, .int .i64 4, .int .i64 3, .int .i64 9, .int .i64 0, .int .i64 0, .int .i64 0, .slice none 0 0, .slice none 0 0, .slice none 0 0], .int .i64 0]) ∧ Below w0.heap.size w0 w' := by
  have HC1 := Lib.hid (fun W R v (h : Rd W R v bytesU 0 0) => show Calls Tryz.prog 60 #[.pointer (some ⟨R, 0, none⟩)] W fun e w' => e = .returned (.agg #[.int .i64 2, .int .i64 16, .int .i64 2, .int .i64 8, .int .i64 5, .int .i64 1, .int .i64 1, .int .i64 10, .int .i64 4, .int .i64 3, .int .i64 9]) ∧ RdTo W R v bytesU w' 11 0 from
    (getConf_any h bytesU_all (by decide) (by decide) 2 1 0 16 2 0 2 3 0 8 4 0 5 5 0 1 6 0 1 7 0 10 8 0 4 9 0 3 10 0 9 11 0 (by rfl) (by rfl) (by rfl) (by rfl) (by rfl) (by rfl) (by rfl) (by rfl) (by rfl) (by rfl) (by rfl) 0 (by rfl)).mono fun e w' ⟨val, h1, h2, _, h4⟩ => ⟨by rw [h1, h2 rfl]; rfl, h4⟩)
  have HN1 := Lib.hid (fun W R v (hW : Rd W R v bytesU 11 0) => rdN_call bytesU_all (by decide) (by decide) 1099511627776 (by decide) 0 12 0 (by rfl) hW)
  have HN2 := Lib.hid (fun W R v (hW : Rd W R v bytesU 12 0) => rdN_call bytesU_all (by decide) (by decide) 1099511627776 (by decide) 0 13 0 (by rfl) hW)
  have HN3 := Lib.hid (fun W R v (hW : Rd W R v bytesU 13 0) => rdN_call bytesU_all (by decide) (by decide) 1099511627776 (by decide) 0 14 0 (by rfl) hW)
  have HAN := Lib.hid (fun W R v (hW : Rd W R v bytesU 15 0) => rdN_call bytesU_all (by decide) (by decide) 64 (by decide) 0 16 0 (by rfl) hW)
  have HEN := Lib.hid (fun W R v (hW : Rd W R v bytesU 16 0) => end_same hW rfl (by decide))
  have HRI := Lib.hid (fun W => dupC (usual_S ▸ sright28_any 2 16 2 8 5 1 1 10 4 3 9 0 0 0 none none none 0 0 0 0 0 0 [] [] [] W (by decide) (seens_nil _ _ (by omega)) rfl (growns_nilU _ _ (by omega)) rfl (alerts_nil _ _ (by omega)) rfl))
  have HFR := Lib.hid (fun W (hW : Ints .u8 W (.slice a0 16 q0) bytesU) => from_any _ bytesU W hW (by decide))
  have HV := Lib.hid hv
  have hmin : min (0 : Int) 16 = 0 := by decide
  clear hv
  go_enter Tryz.func23, Tryz.ntmps23
  go_wp2_with fail
  (with_reducible refine (HFR.out _ (HV.out.below bw)).mono ?_)
  rintro e w ⟨R, v, rfl, hRz, hrd, b1⟩
  have H := Lib.hid hrd
  have hR := hrd.lt
  have A0 := Lib.hid ((rowz_new (W := w0) (T := 28) (cs := #[.int .i64 0, .int .i64 0, .int .i64 0, .int .i64 0, .int .i64 0, .int .i64 0, .int .i64 0, .int .i64 0, .int .i64 0, .int .i64 0, .int .i64 0, .int .i64 0, .int .i64 0, .int .i64 0, .slice none 0 0, .slice none 0 0, .slice none 0 0]) rfl).keep b1 (by first | omega | (simp; done) | (simp; omega)))
  have hPR : w0.heap.size < R := by have := hRz; simp at this; omega
  have hne0 : (some R : Option Nat) ≠ some w0.heap.size := by intro e; injection e with e; omega
  have hw0.heap.size : w0.heap.size < w.heap.size := by omega
  have BW := Lib.hid (show Below w0.heap.size w0 w from below_tr bw (b1.mono (by simp)))
  have T0 := Lib.hid (RdTo.refl hrd)
  clear hrd b1 hRz
  go_wp2_with fail
  (with_reducible refine (HC1.out _ R v (H.out.below bw)).mono ?_)
  rintro e w1 ⟨rfl, r1⟩
  have T1 := Lib.hid (RdTo.trans (RdTo.belowB H.out T0.out bw) r1)
  have y1 := r1.2.size
  have A1 := Lib.hid (RowAt.only (show RowAt _ w0.heap.size 28 #[.int .i64 0, .int .i64 0, .int .i64 0, .int .i64 0, .int .i64 0, .int .i64 0, .int .i64 0, .int .i64 0, .int .i64 0, .int .i64 0, .int .i64 0, .int .i64 0, .int .i64 0, .int .i64 0, .slice none 0 0, .slice none 0 0, .slice none 0 0] from A0.out.keep (B := w.heap.size) bw hw0.heap.size) r1.2 hne0)
  clear r1
  dsimp only
  have hKK := ‹∀ (a : Act) (w : World), wpList _ _ _ _ a w → _›
  refine hKK _ _ ?_
  clear hKK
  (try simp only [Act.put, List.setIfInBounds_toArray, List.set_cons_zero, List.set_cons_succ])
  refine buildArm rfl 28 _ rfl [(0, .agg #[.int .i64 2, .int .i64 16, .int .i64 2, .int .i64 8, .int .i64 5, .int .i64 1, .int .i64 1, .int .i64 10, .int .i64 4, .int .i64 3, .int .i64 9])] (by kernel_rfl) #[.int .i64 2, .int .i64 16, .int .i64 2, .int .i64 8, .int .i64 5, .int .i64 1, .int .i64 1, .int .i64 10, .int .i64 4, .int .i64 3, .int .i64 9, .int .i64 0, .int .i64 0, .int .i64 0, .slice none 0 0, .slice none 0 0, .slice none 0 0] (by kernel_rfl) ?_
  (try simp only [Act.put, List.setIfInBounds_toArray, List.set_cons_zero, List.set_cons_succ])
  refine wpList_plain rfl fun K hK => ?_
  go_simp
  refine hK _ _ ?_
  clear hK K
  (try simp only [Act.put, List.setIfInBounds_toArray, List.set_cons_zero, List.set_cons_succ])
  refine storeRow (zs := #[.int .i64 0, .int .i64 0, .int .i64 0, .int .i64 0, .int .i64 0, .int .i64 0, .int .i64 0, .int .i64 0, .int .i64 0, .int .i64 0, .int .i64 0, .int .i64 0, .int .i64 0, .int .i64 0, .slice none 0 0, .slice none 0 0, .slice none 0 0]) (cells := #[.int .i64 2, .int .i64 16, .int .i64 2, .int .i64 8, .int .i64 5, .int .i64 1, .int .i64 1, .int .i64 10, .int .i64 4, .int .i64 3, .int .i64 9, .int .i64 0, .int .i64 0, .int .i64 0, .slice none 0 0, .slice none 0 0, .slice none 0 0]) rfl 28 _ _ rfl (rowz_new (b := w1.heap.size) rfl) (by rfl) (by rfl) rfl (by kernel_rfl) (by kernel_rfl) ?_
  intro w2 r2 g2
  have E2 := Lib.hid r2
  have b12 := below_only (w0 := w1) (show Below w1.heap.size w1 _ from bw) g2 (Nat.le_refl _) (Nat.le_refl _)
  have T2 := Lib.hid (RdTo.belowB H.out T1.out (b12.mono y1))
  have A2 := Lib.hid (A1.out.keep (b12.mono y1) hw0.heap.size)
  have y2 : w1.heap.size < w2.heap.size := r2.lt
  have hne5 : (some R : Option Nat) ≠ some w1.heap.size := by intro e; injection e with e; omega
  clear r2 g2 b12
  (try simp only [Act.put])
  refine wpList_nil ?_
  go_wp2_with fail
  (with_reducible refine (HN1.out _ R v (T2.out.rd.below bw)).mono ?_)
  rintro e w3 ⟨rfl, r3⟩
  have T3 := Lib.hid (RdTo.trans (RdTo.belowB H.out T2.out bw) r3)
  have y3 := r3.2.size
  have A3 := Lib.hid (RowAt.only (show RowAt _ w0.heap.size 28 #[.int .i64 0, .int .i64 0, .int .i64 0, .int .i64 0, .int .i64 0, .int .i64 0, .int .i64 0, .int .i64 0, .int .i64 0, .int .i64 0, .int .i64 0, .int .i64 0, .int .i64 0, .int .i64 0, .slice none 0 0, .slice none 0 0, .slice none 0 0] from A2.out.keep (B := w.heap.size) bw hw0.heap.size) r3.2 hne0)
  have E3 := Lib.hid (E2.out.only r3.2 hne5)
  clear r3
  go_wp2_with fail
  (with_reducible refine (HN2.out _ R v (T3.out.rd.below bw)).mono ?_)
  rintro e w4 ⟨rfl, r4⟩
  have T4 := Lib.hid (RdTo.trans (RdTo.belowB H.out T3.out bw) r4)
  have y4 := r4.2.size
  have A4 := Lib.hid (RowAt.only (show RowAt _ w0.heap.size 28 #[.int .i64 0, .int .i64 0, .int .i64 0, .int .i64 0, .int .i64 0, .int .i64 0, .int .i64 0, .int .i64 0, .int .i64 0, .int .i64 0, .int .i64 0, .int .i64 0, .int .i64 0, .int .i64 0, .slice none 0 0, .slice none 0 0, .slice none 0 0] from A3.out.keep (B := w.heap.size) bw hw0.heap.size) r4.2 hne0)
  have E4 := Lib.hid (E3.out.only r4.2 hne5)
  clear r4
  go_wp2_with fail
  (with_reducible refine (HN3.out _ R v (T4.out.rd.below bw)).mono ?_)
  rintro e w5 ⟨rfl, r5⟩
  have T5 := Lib.hid (RdTo.trans (RdTo.belowB H.out T4.out bw) r5)
  have y5 := r5.2.size
  have A5 := Lib.hid (RowAt.only (show RowAt _ w0.heap.size 28 #[.int .i64 0, .int .i64 0, .int .i64 0, .int .i64 0, .int .i64 0, .int .i64 0, .int .i64 0, .int .i64 0, .int .i64 0, .int .i64 0, .int .i64 0, .int .i64 0, .int .i64 0, .int .i64 0, .slice none 0 0, .slice none 0 0, .slice none 0 0] from A4.out.keep (B := w.heap.size) bw hw0.heap.size) r5.2 hne0)
  have E5 := Lib.hid (E4.out.only r5.2 hne5)
  clear r5
  have k1 : w5.cell? ⟨w1.heap.size, 1, none⟩ = some (.int .i64 16) := (E5.out.cell 1).trans rfl
  have k11 : w5.cell? ⟨w1.heap.size, 11, none⟩ = some (.int .i64 0) := (E5.out.cell 11).trans rfl
  have k12 : w5.cell? ⟨w1.heap.size, 12, none⟩ = some (.int .i64 0) := (E5.out.cell 12).trans rfl
  have k13 : w5.cell? ⟨w1.heap.size, 13, none⟩ = some (.int .i64 0) := (E5.out.cell 13).trans rfl
  have f11 := E5.out.frozen 11
  have f12 := E5.out.frozen 12
  have f13 := E5.out.frozen 13
  have z5 : w1.heap.size < w5.heap.size := E5.out.lt
  go_wp2_with fail
  go_loopw [6] (fun nv wr => nv = .int .i64 0 ∧ RdTo w R v bytesU wr 14 0 ∧ RowAt wr w0.heap.size 28 #[.int .i64 0, .int .i64 0, .int .i64 0, .int .i64 0, .int .i64 0, .int .i64 0, .int .i64 0, .int .i64 0, .int .i64 0, .int .i64 0, .int .i64 0, .int .i64 0, .int .i64 0, .int .i64 0, .slice none 0 0, .slice none 0 0, .slice none 0 0] ∧ RowAt wr w1.heap.size 28 #[.int .i64 2, .int .i64 16, .int .i64 2, .int .i64 8, .int .i64 5, .int .i64 1, .int .i64 1, .int .i64 10, .int .i64 4, .int .i64 3, .int .i64 9, .int .i64 0, .int .i64 0, .int .i64 0, .slice none 0 0, .slice none 0 0, .slice none 0 0] ∧ w1.heap.size < wr.heap.size) (fun _ _ => 0)
  case atStart =>
    refine ⟨rfl, RdTo.belowB H.out T5.out bw, A5.out.keep (B := w.heap.size) bw hw0.heap.size, ?_, by simp; omega⟩
    exact row_setU (row_setU (row_setU E5.out (ds := #[.int .i64 2, .int .i64 16, .int .i64 2, .int .i64 8, .int .i64 5, .int .i64 1, .int .i64 1, .int .i64 10, .int .i64 4, .int .i64 3, .int .i64 9, .int .i64 0, .int .i64 0, .int .i64 0, .slice none 0 0, .slice none 0 0, .slice none 0 0]) rfl) (ds := #[.int .i64 2, .int .i64 16, .int .i64 2, .int .i64 8, .int .i64 5, .int .i64 1, .int .i64 1, .int .i64 10, .int .i64 4, .int .i64 3, .int .i64 9, .int .i64 0, .int .i64 0, .int .i64 0, .slice none 0 0, .slice none 0 0, .slice none 0 0]) rfl) rfl
  case round =>
    obtain ⟨rfl, hT, hA, hE, z6⟩ := hrel
    rename World => w6
    have T6 := Lib.hid hT
    have A6 := Lib.hid hA
    have E6 := Lib.hid hE
    have y6 := hT.2.size
    clear hT hA hE
    go_wp2_with fail
    (with_reducible refine (getForest_u (T6.out.rd.below bw)).mono ?_)
    rintro e w7 ⟨rfl, r7⟩
    have T7 := Lib.hid (RdTo.trans (RdTo.belowB H.out T6.out bw) r7)
    have y7 : w6.heap.size ≤ w7.heap.size := r7.2.size
    have A7 := Lib.hid (A6.out.only r7.2 hne0)
    have E7 := Lib.hid (E6.out.only r7.2 hne5)
    have k15 : w7.cell? ⟨w1.heap.size, 15, none⟩ = some (.slice none 0 0) := (E7.out.cell 15).trans rfl
    have f15 := E7.out.frozen 15
    have z7 := E7.out.lt
    clear r7
    go_wp2_with fail
    (with_reducible refine (HAN.out _ R v ((RdTo.belowB H.out T7.out bw).rd)).mono ?_)
    rintro e w8 ⟨rfl, r8⟩
    have T8 := Lib.hid (RdTo.trans (RdTo.belowB H.out T7.out bw) r8)
    have y8 : w7.heap.size ≤ w8.heap.size := by have := r8.2.size; simp at this; omega
    have A8 := Lib.hid ((A7.out.keep (B := w.heap.size) bw hw0.heap.size).only r8.2 hne0)
    have E8 := Lib.hid ((row_setU E7.out (ds := #[.int .i64 2, .int .i64 16, .int .i64 2, .int .i64 8, .int .i64 5, .int .i64 1, .int .i64 1, .int .i64 10, .int .i64 4, .int .i64 3, .int .i64 9, .int .i64 0, .int .i64 0, .int .i64 0, .slice none 0 0, .slice none 0 0, .slice none 0 0]) rfl).only r8.2 hne5)
    clear r8
    go_wp2_with fail
    go_loopw [7] (fun nv wr => nv = .int .i64 0 ∧ w8 = wr) (fun _ _ => 0)
    case atStart => exact ⟨rfl, rfl⟩
    case round =>
      obtain ⟨rfl, rfl⟩ := hrel
      go_wp2_with fail
      (with_reducible refine (HEN.out _ R v (T8.out.rd.below bw)).mono ?_)
      rintro e w10 ⟨rfl, d, hd⟩
      have b10 : Below w8.heap.size w8 w10 := by rw [hd]; exact below_drewN bw d
      have T10 := Lib.hid (RdTo.belowB H.out T8.out (b10.mono (by omega)))
      have A10 := Lib.hid (A8.out.keep b10 (by omega))
      have E10 := Lib.hid (E8.out.keep b10 (by omega))
      have y10 := b10.size
      clear b10 hd
      go_wp2_with fail
      refine (err_any T10.out.rd).mono ?_
      rintro e3 w3' ⟨rfl, rfl⟩
      go_upto_region 17 with fail
      refine wp_region_lit ?_
      refine loadRow rfl 28 _ rfl E10.out (by rfl) Tryz.underlying28 rfl (by kernel_rfl) ?_
      (try simp only [Act.put, List.setIfInBounds_toArray, List.set_cons_zero, List.set_cons_succ])
      go_wp2_with fail
      (with_reducible refine (HRI.out _).mono ?_)
      rintro e w11 ⟨rfl, b11, _⟩
      have T11 := Lib.hid (RdTo.belowB H.out T10.out (b11.mono (by omega)))
      have A11 := Lib.hid (A10.out.keep b11 (by omega))
      have E11 := Lib.hid (E10.out.keep b11 (by omega))
      have y11 := b11.size
      clear b11
      go_upto_region 19 with fail
      refine wp_region_lit ?_
      refine loadRow rfl 28 _ rfl E11.out (by rfl) Tryz.underlying28 rfl (by kernel_rfl) ?_
      (try simp only [Act.put, List.setIfInBounds_toArray, List.set_cons_zero, List.set_cons_succ])
      refine storeRow (zs := #[.int .i64 0, .int .i64 0, .int .i64 0, .int .i64 0, .int .i64 0, .int .i64 0, .int .i64 0, .int .i64 0, .int .i64 0, .int .i64 0, .int .i64 0, .int .i64 0, .int .i64 0, .int .i64 0, .slice none 0 0, .slice none 0 0, .slice none 0 0]) (cells := #[.int .i64 2, .int .i64 16, .int .i64 2, .int .i64 8, .int .i64 5, .int .i64 1, .int .i64 1, .int .i64 10, .int .i64 4, .int .i64 3, .int .i64 9, .int .i64 0, .int .i64 0, .int .i64 0, .slice none 0 0, .slice none 0 0, .slice none 0 0]) rfl 28 _ _ rfl A11.out (by rfl) (by rfl) rfl (by kernel_rfl) (by kernel_rfl) ?_
      intro w12 r12 g12
      have R12 := Lib.hid r12
      have B12 := Lib.hid (below_only (below_only BW.out T11.out.2 (Nat.le_refl _) (by omega)) g12 (Nat.le_refl _) (Nat.le_refl _))
      clear r12 g12
      (try simp only [Act.put])
      go_wp2_with fail
      exact bodyPost_ret (v := .tuple #[.agg #[.int .i64 2, .int .i64 16, .int .i64 2, .int .i64 8, .int .i64 5, .int .i64 1, .int .i64 1, .int .i64 10, .int .i64 4, .int .i64 3, .int .i64 9, .int .i64 0, .int .i64 0, .int .i64 0, .slice none 0 0, .slice none 0 0, .slice none 0 0], .int .i64 0]) (ret_cell_tmp Tryz.results23 (by rfl) (by rfl) R12.out Tryz.underlying28 rfl (by kernel_rfl)) rfl ⟨rfl, B12.out⟩
end Go.Proofs.YtgobbecpnjelmaaGreat
