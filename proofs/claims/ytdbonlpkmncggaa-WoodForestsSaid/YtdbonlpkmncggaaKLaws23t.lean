/-
  Laws23t: The walk of WoodTrees.
-/
import Derived.Test.YtdbonlpkmncggaaKLaws23
import Derived.Test.YtdbonlpkmncggaaJ0b
import Derived.Test.YtdbonlpkmncggaaJ2a
import Derived.Test.YtdbonlpkmncggaaKForS
namespace Go.Proofs.Ytdbonlpkmncggaa
open Go.RowKit

theorem ownE (w : World) : (w.alloc (.cells #[] 5)).ownsRow w.heap.size 5 1 (.slice (some ⟨w.heap.size, 0, none⟩) 0 0) 0 [] := World.ownsRow_made w #[] 0 (Nat.le_refl _) (Nat.zero_le _) (by simp)

theorem argsB' {w : World} {v : Value} {l : List Int} (h : ArgInts .u8 w v l) : AllB l := by
  obtain ⟨_, _, _, _, _, _, h⟩ := h
  intro x hx
  have := h x hx
  have := bounds_u8 this
  omega

theorem Ints.takeN {kd : IntKind} {w : World} {a : Option Addr} {c n k : Nat} {l : List Int} (h : Ints kd w (.slice a n c) l) (hk : k ≤ l.length) : Ints kd w (.slice a k c) (l.take k) := (h.take hk).2

theorem Since.get {a m : World} (h : Since a m) : Below a.heap.size a m := h

theorem treeBy_pos {t : TreeP} (h : treeB t = true) : 1 ≤ (treeBy t).length := by
  unfold treeBy
  rw [if_pos h, List.length_append]
  have : 1 ≤ (putsU t.dim.toNat).length := by
    unfold putsU
    split <;> simp
  omega

set_option maxRecDepth 100000 in
set_option maxHeartbeats 16000000 in
theorem woodTrees_walk {w : World} (v0 : Value) (l : List Int) (h0 : ArgInts .u8 w v0 l) (v : Value) (t : TreeP) (hv : ArgTree w v t) :
    Calls Try.prog 6 #[v0, v] w fun e w' => e = .returned (.bool true) ∧ Below w.heap.size w w' := by
  have HM := Lib.hid (fun W (hW : ArgTree W v t) => rmuch_any v t W hW)
  have HA := Lib.hid hv
  have HTT := Lib.hid (fun (h : muchN t.nodes = false) => hv.tree h)
  obtain ⟨nv, rfl, hn⟩ := hv
  obtain ⟨ad, cc, rfl, _⟩ := hn
  obtain ⟨M, hM⟩ : ∃ M, muchN t.nodes = M := ⟨_, rfl⟩
  rw [hM] at HM HTT
  clear hM
  obtain ⟨n, hn⟩ : ∃ n, t.nodes.length = n := ⟨_, rfl⟩
  obtain ⟨D, hD⟩ : ∃ D, t.dim = D := ⟨_, rfl⟩
  rw [hD, hn] at HM HTT HA ⊢
  have HN := Lib.hid hn
  have HD := Lib.hid hD
  clear hD hn
  by_cases hbig : (300 : Int) < l.length
  · obtain ⟨a0, c0, rfl, _⟩ := h0
    clear HTT HM HA
    go_enter Try.func6, Try.ntmps6
    go_wp2_with fail
    (with_reducible refine (lives23_any _).mono ?_); rintro e w1 ⟨rfl, b1⟩; have s1 : w.heap.size + 1 ≤ w1.heap.size := sz b1; have B1 := Lib.hid (Bc (B := w.heap.size) (a := w) (by (repeat (first | with_reducible exact Below.refl _ _ | with_reducible refine Bs ?_ | with_reducible refine Ba ?_ | with_reducible refine Bd ?_ | with_reducible refine Bn ?_))) b1); clear b1
    go_wp2_with fail
    go_ret
    exact ⟨rfl, by (repeat (first | with_reducible exact Below.refl _ _ | with_reducible refine Bs ?_ | with_reducible refine Ba ?_ | with_reducible refine Bd ?_ | with_reducible refine Bn ?_ | with_reducible refine Bt B1.out ?_))⟩
  · have hl : l.length ≤ 300 := by omega
    have HL := Lib.hid hl
    have i1 := h0.ints (by omega)
    have I1 := Lib.hid i1
    have HAB := Lib.hid (argsB' h0)
    obtain ⟨a0, c0, rfl, hc1, hc2, _⟩ := i1
    cases M with
    | true =>
      clear HTT h0
      go_enter Try.func6, Try.ntmps6
      go_wp2_with fail
      (with_reducible refine (HM.out _ (HA.out.below (by (repeat (first | with_reducible exact Below.refl _ _ | with_reducible refine Bs ?_ | with_reducible refine Ba ?_ | with_reducible refine Bd ?_ | with_reducible refine Bn ?_))))).mono ?_); rintro e w1 ⟨rfl, b1⟩; have s1 : w.heap.size + 1 ≤ w1.heap.size := sz b1; have B1 := Lib.hid (Bc (B := w.heap.size) (a := w) (by (repeat (first | with_reducible exact Below.refl _ _ | with_reducible refine Bs ?_ | with_reducible refine Ba ?_ | with_reducible refine Bd ?_ | with_reducible refine Bn ?_))) b1); clear b1
      go_wp2_with fail
      (with_reducible refine (lives23_any _).mono ?_); rintro e w2 ⟨rfl, b2⟩; have s2 : w1.heap.size ≤ w2.heap.size := sz b2; have B2 := Lib.hid (Bc (B := w.heap.size) (a := w) (by (repeat (first | with_reducible exact Below.refl _ _ | with_reducible refine Bs ?_ | with_reducible refine Ba ?_ | with_reducible refine Bd ?_ | with_reducible refine Bn ?_ | with_reducible refine Bt B1.out ?_))) b2); clear b2
      go_wp2_with fail
      go_ret
      exact ⟨rfl, by (repeat (first | with_reducible exact Below.refl _ _ | with_reducible refine Bs ?_ | with_reducible refine Ba ?_ | with_reducible refine Bd ?_ | with_reducible refine Bn ?_ | with_reducible refine Bt B2.out ?_))⟩
    | false =>
      have HT := Lib.hid (HTT.out rfl)
      obtain ⟨Y, hY⟩ : ∃ Y, treeBy t = Y := ⟨_, rfl⟩
      have hYl := treeBy_len t
      have hYb := treeBy_all t
      have hYp := fun h => treeBy_pos (t := t) h
      have hgt := fun h => gT_puts (t := t) h [] []
      rw [hY] at hYl hYb hYp hgt
      have HYL := Lib.hid hYl
      have HYB := Lib.hid hYb
      have HPT := Lib.hid (fun W (hW : TreeR W (.agg #[.int .i64 D, .slice ad n cc]) t) (hI : Ints .u8 W (.slice a0 l.length c0) l) => show Calls Try.prog 32 #[.slice a0 l.length c0, .agg #[.int .i64 D, .slice ad n cc]] W fun e w' => ∃ v', e = .returned v' ∧ OwnB w' W.heap.size v' (l ++ Y) ∧ Below W.heap.size W w' from by
        have := putTree_any _ l _ t W hI (by omega) hW
        rw [hY] at this
        exact this)
      have HRT := Lib.hid (fun W (hW : TreeR W (.agg #[.int .i64 D, .slice ad n cc]) t) => show Calls Try.prog 34 #[.agg #[.int .i64 D, .slice ad n cc]] W fun e w' => ∃ v', e = .returned v' ∧ OwnB w' W.heap.size v' Y ∧ Below W.heap.size W w' from by
        have := rtree23_any _ t W hW
        rw [hY] at this
        exact this)
      obtain ⟨Z, hZ⟩ : ∃ Z, treeB t = Z := ⟨_, rfl⟩
      have HIS := Lib.hid (fun W (hW : TreeR W (.agg #[.int .i64 D, .slice ad n cc]) t) => hZ ▸ ristree_any _ t W hW)
      rw [hZ] at hYp hgt
      have HYP := Lib.hid hYp
      have HGT := Lib.hid hgt
      clear HTT h0 hl hY hYl hYb hYp hgt hZ
      have hl3 : ¬ (l.length : Int) + (Y.length : Int) < (l.length : Int) := by omega
      go_enter Try.func6, Try.ntmps6
      go_wp2_with fail
      (with_reducible refine (HM.out _ (HA.out.below (by (repeat (first | with_reducible exact Below.refl _ _ | with_reducible refine Bs ?_ | with_reducible refine Ba ?_ | with_reducible refine Bd ?_ | with_reducible refine Bn ?_))))).mono ?_); rintro e w1 ⟨rfl, b1⟩; have s1 : w.heap.size + 1 ≤ w1.heap.size := sz b1; have B1 := Lib.hid (Bc (B := w.heap.size) (a := w) (by (repeat (first | with_reducible exact Below.refl _ _ | with_reducible refine Bs ?_ | with_reducible refine Ba ?_ | with_reducible refine Bd ?_ | with_reducible refine Bn ?_))) b1); obtain ⟨c1_0, c1_1⟩ := k2 (w.heap.size) (.int .i64 D) (.slice ad n cc) b1 (by and_intros <;> go_simp); obtain ⟨l1_0, n1_0, m1_0⟩ := lnm (show w.heap.size < w1.heap.size by omega); clear b1
      go_wp2_with fail
      (with_reducible refine (HPT.out _ (HT.out.below (by (repeat (first | with_reducible exact Below.refl _ _ | with_reducible refine Bs ?_ | with_reducible refine Ba ?_ | with_reducible refine Bd ?_ | with_reducible refine Bn ?_ | with_reducible refine Bt B1.out ?_)))) (I1.out.below (by (repeat (first | with_reducible exact Below.refl _ _ | with_reducible refine Bs ?_ | with_reducible refine Ba ?_ | with_reducible refine Bd ?_ | with_reducible refine Bn ?_ | with_reducible refine Bt B1.out ?_))))).mono ?_); rintro e w2 ⟨v2, rfl, j2, b2⟩; have s2 : w1.heap.size ≤ w2.heap.size := sz b2; have B2 := Lib.hid (Bc (B := w.heap.size) (a := w) (by (repeat (first | with_reducible exact Below.refl _ _ | with_reducible refine Bs ?_ | with_reducible refine Ba ?_ | with_reducible refine Bd ?_ | with_reducible refine Bn ?_ | with_reducible refine Bt B1.out ?_))) b2); obtain ⟨c2_0, c2_1⟩ := k2 (w.heap.size) (.int .i64 D) (.slice ad n cc) b2 (by and_intros <;> go_simp); obtain ⟨l2_0, n2_0, m2_0⟩ := lnm (show w.heap.size < w2.heap.size by omega); clear b2
      have J2 := Lib.hid j2
      obtain ⟨pa, pc, rfl⟩ := own_shapeN j2
      obtain ⟨q, hq⟩ : ∃ q, (l ++ Y).length = q := ⟨_, rfl⟩
      rw [hq]
      rw [hq] at J2
      have HQ := Lib.hid hq
      have hq2 : (q : Int) = (l.length : Int) + (Y.length : Int) := by rw [← hq, List.length_append]; omega
      clear j2 hq
      have hq3 : ¬ (q : Int) < (l.length : Int) := by omega
      go_wp2_with fail
      refine wp_region_held_drew (S := fun w' => w'.cell? ⟨w.heap.size, 0, none⟩ = some (.int .i64 D) ∧ w'.cell? ⟨w.heap.size, 1, none⟩ = some (.slice ad n cc)) (by kernel_rfl) ?_ (fun hHeld => ?_); (focus (first | with_reducible exact True.intro | ((try dsimp only); and_intros <;> first | (go_simp; done) | (go_keep; done)))); (refine lexTk 0 (v := ?_) rfl hHeld ?_ (by kernel_rfl) (fun _ _ _ h => h) ?_ ?_; rotate_left 2; (focus rfl); (focus (intro w hSw; (try dsimp only at hSw); first | (go_simp; done) | (go_simp; with_reducible rfl)))); (try simp only [Act.put, List.setIfInBounds_toArray, List.set_cons_zero, List.set_cons_succ]); (refine lexTk 2 (v := ?_) rfl hHeld ?_ (by kernel_rfl) (fun _ _ _ h => h) ?_ ?_; rotate_left 2; (focus rfl); (focus (intro w hSw; (try dsimp only at hSw); first | (go_simp; done) | (go_simp; with_reducible rfl)))); (try simp only [Act.put, List.setIfInBounds_toArray, List.set_cons_zero, List.set_cons_succ]); (refine lexTk 4 (v := ?_) rfl hHeld ?_ (by kernel_rfl) (fun _ _ _ h => h) ?_ ?_; rotate_left 2; (focus rfl); (focus (intro w hSw; (try dsimp only at hSw); first | (go_simp; done) | (go_simp; with_reducible rfl)))); (try simp only [Act.put, List.setIfInBounds_toArray, List.set_cons_zero, List.set_cons_succ]); refine lexHv 1 rfl ?_ (by kernel_rfl); (intro K hK); (go_simp); refine hK.out _ _ ?_ ?_; (focus (first | with_reducible exact True.intro | ((try dsimp only); and_intros <;> first | (go_simp; done) | (go_keep; done)))); (clear hHeld hK K); (intro hHeld); (try simp only [Act.put, List.setIfInBounds_toArray, List.set_cons_zero, List.set_cons_succ]); refine lexHv 3 rfl ?_ (by kernel_rfl); (intro K hK); ((have HO := Lib.hid (ownE w2.drew)); (refine appInts_step rfl _ _ 55 rfl Try.underlying55 eiU8 w2.heap.size (by rfl) HO.out (by rfl) (I1.out.below (by (repeat (first | with_reducible exact Below.refl _ _ | with_reducible refine Bs ?_ | with_reducible refine Ba ?_ | with_reducible refine Bd ?_ | with_reducible refine Bn ?_ | with_reducible refine Bt B2.out ?_)))) (by have := HL.out; omega) (by simp) ?_); (intro v3 w3 hown3 hb3 _); (have s3 : w2.heap.size ≤ w3.heap.size := sz hb3); (have B3 := Lib.hid (Bc (B := w.heap.size) (a := w) (by (repeat (first | with_reducible exact Below.refl _ _ | with_reducible refine Bs ?_ | with_reducible refine Ba ?_ | with_reducible refine Bd ?_ | with_reducible refine Bn ?_ | with_reducible refine Bt B2.out ?_))) hb3)); (have C := Lib.hid (show Since w2 w3 from Bc (B := w2.heap.size) (a := w2) (by (repeat (first | with_reducible exact Below.refl _ _ | with_reducible refine Bs ?_ | with_reducible refine Ba ?_ | with_reducible refine Bd ?_ | with_reducible refine Bn ?_))) hb3)); (have O3 := Lib.hid (show OwnB w3 w2.heap.size v3 l by simpa [OwnB] using hown3)); (obtain ⟨c3_0, c3_1⟩ := k2 (w.heap.size) (.int .i64 D) (.slice ad n cc) hb3 (by and_intros <;> go_simp)); (clear hown3 hb3)); refine hK.out _ _ ?_ ?_; (focus (first | with_reducible exact True.intro | ((try dsimp only); and_intros <;> first | (go_simp; done) | (go_keep; done)))); (clear hHeld hK K); (intro hHeld); (try simp only [Act.put, List.setIfInBounds_toArray, List.set_cons_zero, List.set_cons_succ]); refine lexHv 5 rfl ?_ (by kernel_rfl); (intro K hK); (go_simp; go_at_call 34; (with_reducible refine (HRT.out _ (HT.out.below (by (repeat (first | with_reducible exact Below.refl _ _ | with_reducible refine Bs ?_ | with_reducible refine Ba ?_ | with_reducible refine Bd ?_ | with_reducible refine Bn ?_ | with_reducible refine Bt B3.out ?_))))).mono ?_); rintro e w4 ⟨v4, rfl, j4, b4⟩; have s4 : w3.heap.size ≤ w4.heap.size := sz b4; have B4 := Lib.hid (Bc (B := w.heap.size) (a := w) (by (repeat (first | with_reducible exact Below.refl _ _ | with_reducible refine Bs ?_ | with_reducible refine Ba ?_ | with_reducible refine Bd ?_ | with_reducible refine Bn ?_ | with_reducible refine Bt B3.out ?_))) b4); obtain ⟨c4_0, c4_1⟩ := k2 (w.heap.size) (.int .i64 D) (.slice ad n cc) b4 (by and_intros <;> go_simp); obtain ⟨l4_0, n4_0, m4_0⟩ := lnm (show w.heap.size < w4.heap.size by omega); have O3 := Lib.hid ((O3.out.below (by (repeat (first | with_reducible exact Below.refl _ _ | with_reducible refine Bs ?_ | with_reducible refine Ba ?_ | with_reducible refine Bd ?_ | with_reducible refine Bn ?_)))).below b4); have C := Lib.hid ((C.out.below (by (repeat (first | with_reducible exact Below.refl _ _ | with_reducible refine Bs ?_ | with_reducible refine Ba ?_ | with_reducible refine Bd ?_ | with_reducible refine Bn ?_)))).below b4); clear b4; (have J4 := Lib.hid (OwnB.ints j4 (by have := HYL.out; omega))); (clear j4); (try go_wp2_with fail)); refine hK.out _ _ ?_ ?_; (focus (first | with_reducible exact True.intro | ((try dsimp only); and_intros <;> first | (go_simp; done) | (go_keep; done)))); (clear hHeld hK K); (intro hHeld); (try simp only [Act.put, List.setIfInBounds_toArray, List.set_cons_zero, List.set_cons_succ]); refine lexHv 6 rfl ?_ (by kernel_rfl); (intro K hK); ((refine appInts_step rfl _ _ 55 rfl Try.underlying55 eiU8 w2.heap.size (by rfl) O3.out (by rfl) J4.out (by have := HL.out; have := HYL.out; omega) (by omega) ?_); (intro v5 w5 hown5 hb5 _); (have s5 : w4.heap.size ≤ w5.heap.size := sz hb5); (have B5 := Lib.hid (Bc (B := w.heap.size) (a := w) (by (repeat (first | with_reducible exact Below.refl _ _ | with_reducible refine Bs ?_ | with_reducible refine Ba ?_ | with_reducible refine Bd ?_ | with_reducible refine Bn ?_ | with_reducible refine Bt B4.out ?_))) hb5)); (have J5 := Lib.hid (show OwnB w5 w2.heap.size v5 (l ++ Y) by (unfold OwnB; rw [List.map_append, List.length_append]; exact hown5))); (obtain ⟨c5_0, c5_1⟩ := k2 (w.heap.size) (.int .i64 D) (.slice ad n cc) hb5 (by and_intros <;> go_simp)); (have C5 := Lib.hid (C.out.own hb5)); (clear hown5 hb5)); refine hK.out _ _ ?_ ?_; (focus (first | with_reducible exact True.intro | ((try dsimp only); and_intros <;> first | (go_simp; done) | (go_keep; done)))); (clear hHeld hK K); (intro hHeld); (try simp only [Act.put, List.setIfInBounds_toArray, List.set_cons_zero, List.set_cons_succ]); refine lexHv 7 rfl ?_ (by kernel_rfl); (intro K hK); (go_simp; (go_at_call 33; (with_reducible refine (same21_eq _ _ (l ++ Y) _ ((OwnB.ints J2.out (by have := HL.out; have := HYL.out; rw [List.length_append]; omega)).below C5.out.get) (OwnB.ints J5.out (by have := HL.out; have := HYL.out; rw [List.length_append]; omega))).mono ?_); rintro e w6 ⟨rfl, rfl⟩); (try go_wp2_with fail)); refine hK.out _ _ ?_ ?_; (focus (first | with_reducible exact True.intro | ((try dsimp only); and_intros <;> first | (go_simp; done) | (go_keep; done)))); (clear hHeld hK K); (intro hHeld); (try simp only [Act.put, List.setIfInBounds_toArray, List.set_cons_zero, List.set_cons_succ]); (refine lexTk 8 (v := ?_) rfl hHeld ?_ (by kernel_rfl) (fun _ _ _ h => h) ?_ ?_; rotate_left 2; (focus rfl); (focus (intro w hSw; (try dsimp only at hSw); first | (go_simp; done) | (go_simp; with_reducible rfl)))); (try simp only [Act.put, List.setIfInBounds_toArray, List.set_cons_zero, List.set_cons_succ]); (refine lexTk 9 (v := ?_) rfl hHeld ?_ (by kernel_rfl) (fun _ _ _ h => h) ?_ ?_; rotate_left 2; (focus rfl); (focus (intro w hSw; (try dsimp only at hSw); first | (go_simp; done) | (go_simp; with_reducible rfl)))); (try simp only [Act.put, List.setIfInBounds_toArray, List.set_cons_zero, List.set_cons_succ]); (first | (refine lexTk 10 (v := ?_) rfl hHeld ?_ (by kernel_rfl) (fun _ _ _ h => h) ?_ ?_; rotate_left 2; (focus rfl); (focus (intro w hSw; (try dsimp only at hSw); first | (go_simp; done) | (go_simp; with_reducible rfl)))) | refine lexSk 10 rfl hHeld ?_ (by kernel_rfl) (fun _ _ _ h => h) (by rfl)); (try simp only [Act.put, List.setIfInBounds_toArray, List.set_cons_zero, List.set_cons_succ]); (first | (refine lexTk 11 (v := ?_) rfl hHeld ?_ (by kernel_rfl) (fun _ _ _ h => h) ?_ ?_; rotate_left 2; (focus rfl); (focus (intro w hSw; (try dsimp only at hSw); first | (go_simp; done) | (go_simp; with_reducible rfl)))) | refine lexSk 11 rfl hHeld ?_ (by kernel_rfl) (fun _ _ _ h => h) (by rfl)); (try simp only [Act.put, List.setIfInBounds_toArray, List.set_cons_zero, List.set_cons_succ]); (first | (refine lexTk 12 (v := ?_) rfl hHeld ?_ (by kernel_rfl) (fun _ _ _ h => h) ?_ ?_; rotate_left 2; (focus rfl); (focus (intro w hSw; (try dsimp only at hSw); first | (go_simp; done) | (go_simp; with_reducible rfl)))) | refine lexSk 12 rfl hHeld ?_ (by kernel_rfl) (fun _ _ _ h => h) (by rfl)); (try simp only [Act.put, List.setIfInBounds_toArray, List.set_cons_zero, List.set_cons_succ]); (first | (refine lexTk 13 (v := ?_) rfl hHeld ?_ (by kernel_rfl) (fun _ _ _ h => h) ?_ ?_; rotate_left 2; (focus rfl); (focus (intro w hSw; (try dsimp only at hSw); first | (go_simp; done) | (go_simp; with_reducible rfl)))) | refine lexSk 13 rfl hHeld ?_ (by kernel_rfl) (fun _ _ _ h => h) (by rfl)); (try simp only [Act.put, List.setIfInBounds_toArray, List.set_cons_zero, List.set_cons_succ]); (first | (refine lexTk 14 (v := ?_) rfl hHeld ?_ (by kernel_rfl) (fun _ _ _ h => h) ?_ ?_; rotate_left 2; (focus rfl); (focus (intro w hSw; (try dsimp only at hSw); first | (go_simp; done) | (go_simp; with_reducible rfl)))) | refine lexSk 14 rfl hHeld ?_ (by kernel_rfl) (fun _ _ _ h => h) (by rfl)); (try simp only [Act.put, List.setIfInBounds_toArray, List.set_cons_zero, List.set_cons_succ]); (refine lexTk 15 (v := ?_) rfl hHeld ?_ (by kernel_rfl) (fun _ _ _ h => h) ?_ ?_; rotate_left 2; (focus rfl); (focus (intro w hSw; (try dsimp only at hSw); first | (go_simp; done) | (go_simp; with_reducible rfl)))); (try simp only [Act.put, List.setIfInBounds_toArray, List.set_cons_zero, List.set_cons_succ]); refine wpAnyH_done (by kernel_rfl) ?_ _
      go_wp2_with fail
      (with_reducible refine (HIS.out _ (HT.out.below (by (repeat (first | with_reducible exact Below.refl _ _ | with_reducible refine Bs ?_ | with_reducible refine Ba ?_ | with_reducible refine Bd ?_ | with_reducible refine Bn ?_ | with_reducible refine Bt B5.out ?_))))).mono ?_); rintro e w7 ⟨rfl, b7⟩; have s7 : w5.heap.size ≤ w7.heap.size := sz b7; have B7 := Lib.hid (Bc (B := w.heap.size) (a := w) (by (repeat (first | with_reducible exact Below.refl _ _ | with_reducible refine Bs ?_ | with_reducible refine Ba ?_ | with_reducible refine Bd ?_ | with_reducible refine Bn ?_ | with_reducible refine Bt B5.out ?_))) b7); obtain ⟨c7_0, c7_1⟩ := k2 (w.heap.size) (.int .i64 D) (.slice ad n cc) b7 (by and_intros <;> go_simp); obtain ⟨l7_0, n7_0, m7_0⟩ := lnm (show w.heap.size < w7.heap.size by omega); have C5 := Lib.hid ((C5.out.below (by (repeat (first | with_reducible exact Below.refl _ _ | with_reducible refine Bs ?_ | with_reducible refine Ba ?_ | with_reducible refine Bd ?_ | with_reducible refine Bn ?_)))).below b7); clear b7
      cases Z with
      | false =>
        go_wp2_with fail
        (with_reducible refine (lives23_any _).mono ?_); rintro e w8 ⟨rfl, b8⟩; have s8 : w7.heap.size ≤ w8.heap.size := sz b8; have B8 := Lib.hid (Bc (B := w.heap.size) (a := w) (by (repeat (first | with_reducible exact Below.refl _ _ | with_reducible refine Bs ?_ | with_reducible refine Ba ?_ | with_reducible refine Bd ?_ | with_reducible refine Bn ?_ | with_reducible refine Bt B7.out ?_))) b8); clear b8
        go_wp2_with fail
        go_ret
        exact ⟨rfl, by (repeat (first | with_reducible exact Below.refl _ _ | with_reducible refine Bs ?_ | with_reducible refine Ba ?_ | with_reducible refine Bd ?_ | with_reducible refine Bn ?_ | with_reducible refine Bt B8.out ?_))⟩
      | true =>
        have hyp := HYP.out rfl
        obtain ⟨g, pc', hg, hg1, hg2⟩ := own_some2 J2.out (by rw [List.length_append]; omega)
        rw [HQ.out] at hg
        injection hg with hg3 _ hg4
        subst hg3 hg4
        have hqc : q ≤ pc := by
          rcases J2.out.2 with ⟨h, _⟩ | ⟨g', cap, cur, h, _, _, h1, _⟩
          · cases h
          · injection h with _ e1 e2
            rw [e1, e2]
            exact h1
        have hI7 := (OwnB.ints J2.out (by have := HL.out; have := HYL.out; rw [List.length_append]; omega)).below C5.out.get
        have hpc : pc ≤ 9223372036854775807 := by
          obtain ⟨_, _, e, _, h, _⟩ := hI7
          injection e with _ _ e
          rw [e]
          exact h
        have hIY : Ints .u8 w7 (.slice (some ⟨g, l.length, none⟩) (q - l.length) (pc - l.length)) Y := by
          have h := Ints.cutAt (i := l.length) (m := Y.length) (ad' := some ⟨g, l.length, none⟩) hI7 (by rw [List.length_append]; omega) (pc - l.length) (by omega) (by omega) (fun _ b o e => by
            injection e with e
            injection e with e1 e2 e3
            subst e1 e2
            simp)
          rw [show ((l ++ Y).drop l.length).take Y.length = Y by simp] at h
          rw [show q - l.length = Y.length by omega]
          exact h
        have HIY := Lib.hid hIY
        have k1 : ¬ pc = l.length := by omega
        have hgt := HGT.out rfl
        simp only [List.nil_append, List.append_nil, List.length_nil, Nat.zero_add] at hgt
        have HT1 := Lib.hid (fun W R rv (hW : Rd W R rv Y 0 0) => show Calls Try.prog 37 #[.pointer (some ⟨R, 0, none⟩)] W fun e' w' => ∃ na nc, e' = .returned (.agg #[.int .i64 D, .slice na n nc]) ∧ RdTo W R rv Y w' Y.length 0 ∧ NodesF W.heap.size w' (.slice na n nc) t.nodes from by
          have := getTree_any hW HYB.out (Nat.zero_le _) (by have := HYL.out; omega)
          rw [hgt] at this
          refine this.mono ?_
          rintro e w' ⟨d, nv, rfl, h1, rfl, h2⟩
          obtain ⟨na, nc, rfl, -⟩ := h2.now
          rw [HN.out] at h2 ⊢
          exact ⟨na, nc, by rw [HD.out], h1, h2⟩)
        have HST := Lib.hid (fun W na nb (ha : NodesR W na t.nodes) (hb : NodesR W nb t.nodes) => show Calls Try.prog 22 #[.agg #[.int .i64 D, na], .agg #[.int .i64 D, nb]] W fun e w' => e = .returned (.bool true) ∧ Below W.heap.size W w' from by
          have := r10same_any _ _ t t W ⟨na, by rw [HD.out], ha⟩ ⟨nb, by rw [HD.out], hb⟩
          rw [sameT_eq.2 rfl] at this
          exact this)
        have HTN := Lib.hid (show NodesR w (.slice ad n cc) t.nodes from by
          obtain ⟨nv, e, h⟩ := HT.out
          injection e with e
          injection e with e
          simp at e
          rw [e.2]
          exact h)
        clear hgt hI7 hIY hyp hpc hqc
        go_wp2_with fail
        (with_reducible refine (from_any _ Y _ HIY.out (by have := HYL.out; omega)).mono ?_); rintro e w8 ⟨R, rv, rfl, hR, r8, b8⟩; have s8 : w7.heap.size ≤ w8.heap.size := sz b8; have B8 := Lib.hid (Bc (B := w.heap.size) (a := w) (by (repeat (first | with_reducible exact Below.refl _ _ | with_reducible refine Bs ?_ | with_reducible refine Ba ?_ | with_reducible refine Bd ?_ | with_reducible refine Bn ?_ | with_reducible refine Bt B7.out ?_))) b8); obtain ⟨c8_0, c8_1⟩ := k2 (w.heap.size) (.int .i64 D) (.slice ad n cc) b8 (by and_intros <;> go_simp); obtain ⟨l8_0, n8_0, m8_0⟩ := lnm (show w.heap.size < w8.heap.size by omega); clear b8
        have R8 := Lib.hid r8
        have hRl := r8.lt
        clear r8
        go_wp2_with fail
        (with_reducible refine (HT1.out _ R rv R8.out).mono ?_)
        rintro e w9 ⟨na, nc, rfl, r9, hf9⟩
        have gg9 := r9.2
        have y9 := gg9.size
        obtain ⟨c9_0, c9_1⟩ := g2 (w.heap.size) (.int .i64 D) (.slice ad n cc) gg9 (by and_intros <;> go_simp)
        obtain ⟨l9_0, n9_0, m9_0⟩ := lnm (show w.heap.size < w9.heap.size by omega)
        have B9 := Lib.hid (below_only (w0 := w) B8.out gg9 (Nat.le_refl _) (by omega))
        have R9 := Lib.hid r9.1
        have F9 := Lib.hid hf9.now
        clear r9 hf9 gg9
        go_wp2_with fail
        (with_reducible refine (HST.out _ _ _ (F9.out.below (by (repeat (first | with_reducible exact Below.refl _ _ | with_reducible refine Bs ?_ | with_reducible refine Ba ?_ | with_reducible refine Bd ?_ | with_reducible refine Bn ?_)))) (HTN.out.below (by (repeat (first | with_reducible exact Below.refl _ _ | with_reducible refine Bs ?_ | with_reducible refine Ba ?_ | with_reducible refine Bd ?_ | with_reducible refine Bn ?_ | with_reducible refine Bt B9.out ?_))))).mono ?_); rintro e w10 ⟨rfl, b10⟩; have s10 : w9.heap.size + 1 ≤ w10.heap.size := sz b10; have B10 := Lib.hid (Bc (B := w.heap.size) (a := w) (by (repeat (first | with_reducible exact Below.refl _ _ | with_reducible refine Bs ?_ | with_reducible refine Ba ?_ | with_reducible refine Bd ?_ | with_reducible refine Bn ?_ | with_reducible refine Bt B9.out ?_))) b10); obtain ⟨c10_0, c10_1⟩ := k2 (w.heap.size) (.int .i64 D) (.slice ad n cc) b10 (by and_intros <;> go_simp); obtain ⟨l10_0, n10_0, m10_0⟩ := lnm (show w.heap.size < w10.heap.size by omega); have R9 := Lib.hid ((R9.out.below (by (repeat (first | with_reducible exact Below.refl _ _ | with_reducible refine Bs ?_ | with_reducible refine Ba ?_ | with_reducible refine Bd ?_ | with_reducible refine Bn ?_)))).below b10); clear b10
        go_wp2_with fail
        refine (err_any (R9.out.below (by (repeat (first | with_reducible exact Below.refl _ _ | with_reducible refine Bs ?_ | with_reducible refine Ba ?_ | with_reducible refine Bd ?_ | with_reducible refine Bn ?_))))).mono ?_
        rintro e w11 ⟨rfl, rfl⟩
        go_wp2_with fail
        refine (bleft_any (R9.out.below (by (repeat (first | with_reducible exact Below.refl _ _ | with_reducible refine Bs ?_ | with_reducible refine Ba ?_ | with_reducible refine Bd ?_ | with_reducible refine Bn ?_)))) (Nat.le_refl _) (by have := HYL.out; omega)).mono ?_
        rintro e w11 ⟨rfl, d11, rfl⟩
        rw [Int.sub_self]
        go_wp2_with fail
        (with_reducible refine (lives23_any _).mono ?_); rintro e w12 ⟨rfl, b12⟩; have s12 : w10.heap.size ≤ w12.heap.size := sz b12; have B12 := Lib.hid (Bc (B := w.heap.size) (a := w) (by (repeat (first | with_reducible exact Below.refl _ _ | with_reducible refine Bs ?_ | with_reducible refine Ba ?_ | with_reducible refine Bd ?_ | with_reducible refine Bn ?_ | with_reducible refine Bt B10.out ?_))) b12); clear b12
        go_wp2_with fail
        go_ret
        exact ⟨rfl, by (repeat (first | with_reducible exact Below.refl _ _ | with_reducible refine Bs ?_ | with_reducible refine Ba ?_ | with_reducible refine Bd ?_ | with_reducible refine Bn ?_ | with_reducible refine Bt B12.out ?_))⟩
end Go.Proofs.Ytdbonlpkmncggaa
