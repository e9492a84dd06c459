/-
  BagI: Walk of Drop.
-/
import Derived.Test.YtjmjnkilgoelbaaJ2a
import Derived.Test.YtjmjnkilgoelbaaJ0b
namespace Go.Proofs.Ytjmjnkilgoelbaa
open Go.RowKit

/-- What Drop leaves. -/
def DropTo (w : World) (P : Nat) (v : Value) (vs : List Value) (bs : List (List (Int × Int))) (s : Int × Int) (w' : World) : Prop :=
  ∃ v' vs' bs', BagAt w' P v' vs' bs' bs'.flatten.length ∧ BagP bs' ∧ (s :: bs'.flatten).Perm bs.flatten ∧ OnlyIn (P :: blks v vs) w w' ∧ ∀ x, x ∈ blks v' vs' → x ∈ blks v vs

theorem erase_nil : ∀ (bs : List (List (Int × Int))) (r : Nat), ((bs.set r []).eraseIdx r).flatten = (bs.set r []).flatten
  | [], _ => rfl
  | _ :: _, 0 => rfl
  | b :: bs, r + 1 => congrArg (b ++ ·) (erase_nil bs r)

theorem erase_mem : ∀ (bs : List (List (Int × Int))) (r : Nat) {l : List (Int × Int)}, l ∈ (bs.set r []).eraseIdx r → l ∈ bs
  | [], _, _, h => h
  | _ :: _, 0, _, h => List.mem_cons_of_mem _ h
  | b :: bs, r + 1, l, h => by
    have h' : l ∈ b :: (bs.set r []).eraseIdx r := h
    rcases List.mem_cons.1 h' with e | e
    · exact List.mem_cons.2 (.inl e)
    · exact List.mem_cons.2 (.inr (erase_mem bs r e))

set_option maxRecDepth 100000 in
set_option maxHeartbeats 4000000 in
theorem drop_bad (P : Nat) (p q : Int) (w : World) (hs : scoreB (p, q) = false) :
    Calls Try.prog 25 #[.pointer (some ⟨P, 0, none⟩), .agg #[.int .i64 p, .int .i64 q]] w fun e w' => e = .returned (.int .i64 130) ∧ Below w.heap.size w w' := by
  have HS := Lib.hid (fun W => sis_any p q W)
  rw [hs] at HS
  clear hs
  go_enter Try.func25, Try.ntmps25
  go_wp2_with fail
  (with_reducible refine (HS.out _).mono ?_); rintro e w1 ⟨rfl, b1⟩; have s1 : w.heap.size + 1 ≤ w1.heap.size := sz b1; have B1 := Lib.hid (Bc (B := w.heap.size) (a := w) (by (repeat (first | with_reducible exact Below.refl _ _ | with_reducible refine Bs ?_ | with_reducible refine Ba ?_ | with_reducible refine Bd ?_ | with_reducible refine Bn ?_))) b1); clear b1
  go_wp2_with fail
  go_ret
  exact ⟨rfl, B1.out⟩

set_option maxRecDepth 100000 in
set_option maxHeartbeats 4000000 in
theorem drop_any (P : Nat) (v : Value) (vs : List Value) (bs : List (List (Int × Int))) (p q : Int) (w : World) (h : BagAt w P v vs bs bs.flatten.length) (hp : BagP bs) (hs : scoreB (p, q) = true) :
    Calls Try.prog 25 #[.pointer (some ⟨P, 0, none⟩), .agg #[.int .i64 p, .int .i64 q]] w fun e w' =>
      (e = .returned (.int .i64 4) ∧ (p, q) ∉ bs.flatten ∧ Below w.heap.size w w') ∨ (e = .returned (.int .i64 0) ∧ DropTo w P v vs bs (p, q) w') := by
  have HS := Lib.hid (fun W => sis_any p q W)
  rw [hs] at HS
  have HB := Lib.hid h
  have HP := Lib.hid hp
  have HSC := Lib.hid hs
  have hlt := h.lt
  have c0 := h.c0
  have c1 := h.c1
  have f0 := h.f0
  have f1 := h.f1
  obtain ⟨a, c, rfl⟩ : ∃ a c, v = .slice a bs.length c := by
    rcases h.row.2 with ⟨rfl, h1⟩ | ⟨g, c, _, rfl, _⟩
    · exact ⟨none, 0, by rw [h1]⟩
    · exact ⟨_, _, rfl⟩
  have hnM := bags_len hp.some
  have hm := hp.most
  obtain ⟨M, hM⟩ : ∃ M, bs.flatten.length = M := ⟨_, rfl⟩
  have HMM := Lib.hid hM
  rw [hM] at c1 hm HB hnM
  obtain ⟨n, hn⟩ : ∃ n, bs.length = n := ⟨_, rfl⟩
  have HN := Lib.hid hn
  rw [hn] at c0 HB hnM ⊢
  clear hs h hp hM hn
  go_enter Try.func25, Try.ntmps25
  go_wp2_with fail
  (with_reducible refine (HS.out _).mono ?_); rintro e w1 ⟨rfl, b1⟩; have s1 : w.heap.size + 1 ≤ w1.heap.size := sz b1; have B1 := Lib.hid (Bc (B := w.heap.size) (a := w) (by (repeat (first | with_reducible exact Below.refl _ _ | with_reducible refine Bs ?_ | with_reducible refine Ba ?_ | with_reducible refine Bd ?_ | with_reducible refine Bn ?_))) b1); obtain ⟨c1_0, f1_0, c1_1, f1_1⟩ := k2f (P) (.slice a n c) (.int .i64 M) b1 (by and_intros <;> go_simp); obtain ⟨c1_2, c1_3⟩ := k2 (w.heap.size) (.int .i64 p) (.int .i64 q) b1 (by and_intros <;> go_simp); obtain ⟨l1_0, n1_0, m1_0⟩ := lnm (show P < w1.heap.size by omega); obtain ⟨l1_1, n1_1, m1_1⟩ := lnm (show w.heap.size < w1.heap.size by omega); clear b1
  go_wp2_with fail
  have HB1 := Lib.hid (HB.out.below B1.out)
  (with_reducible refine (block_any P _ vs bs _ p q _ HB1.out HP.out HSC.out).mono ?_); rintro e w2 ⟨r, rfl, r1, r2, r3, b2⟩; have s2 : w1.heap.size ≤ w2.heap.size := sz b2; have B2 := Lib.hid (Bc (B := w.heap.size) (a := w) (by (repeat (first | with_reducible exact Below.refl _ _ | with_reducible refine Bs ?_ | with_reducible refine Ba ?_ | with_reducible refine Bd ?_ | with_reducible refine Bn ?_ | with_reducible refine Bt B1.out ?_))) b2); obtain ⟨c2_0, f2_0, c2_1, f2_1⟩ := k2f (P) (.slice a n c) (.int .i64 M) b2 (by and_intros <;> go_simp); obtain ⟨c2_2, c2_3⟩ := k2 (w.heap.size) (.int .i64 p) (.int .i64 q) b2 (by and_intros <;> go_simp); obtain ⟨l2_0, n2_0, m2_0⟩ := lnm (show P < w2.heap.size by omega); obtain ⟨l2_1, n2_1, m2_1⟩ := lnm (show w.heap.size < w2.heap.size by omega); clear b2
  rw [HN.out] at r1 r3
  by_cases hr : r = n
  · subst hr
    have HNO := Lib.hid (none_all HP.out (s := (p, q)) (fun j hj => r2 j (by rw [← HN.out]; exact hj)))
    clear r1 r2 r3
    go_wp2_with fail
    go_ret
    exact .inl ⟨rfl, HNO.out, B2.out⟩
  · have R2 := Lib.hid r2
    have R3 := Lib.hid r3
    have hrn : r < n := by omega
    clear r1 r2 r3
    obtain ⟨l, hl⟩ := getElem?_ex (l := bs) (k := r) (by rw [HN.out]; exact hrn)
    have hmm := List.mem_of_getElem? hl
    have hl0 := HP.out.some l hmm
    have hl32 := HP.out.few l hmm
    have HLR := Lib.hid (HP.out.row hmm)
    have HB2 := Lib.hid (HB.out.below B2.out)
    obtain ⟨g, c2, b, cc, e, _, hgi, hvi, hri, hlc, hcm⟩ := HB2.out.at hl hl0
    rw [HN.out] at e
    injection e with e1 e2 e3
    subst e1 e3
    have hlpos := List.length_pos_iff.2 hl0
    have HVI := Lib.hid hvi
    have HRI := Lib.hid hri
    have hPr := own_pairs hri rfl (by omega)
    have HPR := Lib.hid hPr
    have HL := Lib.hid hl
    obtain ⟨n2, hn2⟩ : ∃ n2, l.length = n2 := ⟨_, rfl⟩
    have HN2 := Lib.hid hn2
    rw [hn2] at hgi hlc hl32 HRI HPR HVI hlpos
    have i1 : (0 : Int) ≤ (r : Int) := by omega
    have i2 : (r : Int) < (n : Int) := by omega
    have i3 : ((r : Int) == (n : Int)) = false := by simp; omega
    have hbl : b < w2.heap.size := own_lt hri rfl
    have hgl2 := World.block_lt_of_cell? _ _ hgi
    dsimp only at hgl2
    clear hvi hri hPr hl0 hn2 hl hmm hr
    go_wp2_with fail
    ((with_reducible refine (place_any _ l p q _ HPR.out HLR.out.2 HSC.out HLR.out.1 (by have := HN2.out; omega)).mono ?_))
    rintro e w3 ⟨k, rfl, k1', k2', k3', b3⟩
    have BB3 := Lib.hid b3
    have K2 := Lib.hid k2'
    have K3 := Lib.hid k3'
    rw [HN2.out] at k1'
    have hkl : k < n2 := by
      rcases Nat.lt_or_ge k n2 with h | h
      · exact h
      · exfalso
        have h1 := R3.out r (Nat.le_refl _) (by omega)
        rw [lastGe_some HL.out, HN2.out, K2.out (n2 - 1) (by omega)] at h1
        cases h1
    clear k1' k2' k3'
    obtain ⟨⟨x, y⟩, hxy⟩ := getElem?_ex (l := l) (k := k) (by rw [HN2.out]; exact hkl)
    have hrow3 : w3.ownsRow 0 24 2 (.slice (some ⟨b, 0, none⟩) n2 cc) n2 (l.flatMap pairF) := own_keep HRI.out fun q _ hq => b3.block q hq
    obtain ⟨x0, x1⟩ := own_pair hrow3 hxy hkl
    dsimp only at x0 x1
    have s3 : w2.heap.size ≤ w3.heap.size := sz b3
    (obtain ⟨c3_0, f3_0, c3_1, f3_1⟩ := k2f (P) (.slice (some ⟨g, 0, none⟩) n c) (.int .i64 M) b3 (by and_intros <;> go_simp)); (obtain ⟨c3_2, c3_3⟩ := k2 (w.heap.size) (.int .i64 p) (.int .i64 q) b3 (by and_intros <;> go_simp)); (have c3_4 : w3.cell? ⟨g, r, none⟩ = some (.slice (some ⟨b, 0, none⟩) n2 cc) := kc b3 (by go_simp) (by first | omega | (simp; done) | (simp; omega))); (obtain ⟨l3_0, n3_0, m3_0⟩ := lnm (show P < w3.heap.size by omega)); (obtain ⟨l3_1, n3_1, m3_1⟩ := lnm (show w.heap.size < w3.heap.size by omega)); (obtain ⟨l3_2, n3_2, m3_2⟩ := lnm (show g < w3.heap.size by omega))
    have HROW3 := Lib.hid hrow3
    have HXY := Lib.hid hxy
    have i4 : (0 : Int) ≤ (k : Int) := by omega
    have i5 : (k : Int) < (n2 : Int) := by omega
    clear b3 hrow3 hxy
    go_upto_region 10 with fail
    by_cases hne : (x, y) ≠ (p, q)
    · have HNO := Lib.hid (none_at HP.out HSC.out HL.out R2.out K2.out HXY.out (K3.out k (Nat.le_refl _) (by rw [HN2.out]; exact hkl)) hne)
      have hn2 : x ≠ p ∨ y ≠ q := by
        rcases Decidable.em (x = p) with h | h
        · exact .inr fun e => hne (by rw [h, e])
        · exact .inl h
      clear hne
      rcases hn2 with hn2 | hn2
      · refine wp_region_held_drew (S := fun w' => w'.cell? ⟨b, k * 2, none⟩ = some (.int .i64 x) ∧ w'.cell? ⟨b, k * 2 + 1, none⟩ = some (.int .i64 y) ∧ w'.cell? ⟨w.heap.size, 0, none⟩ = some (.int .i64 p) ∧ w'.cell? ⟨w.heap.size, 1, none⟩ = some (.int .i64 q)) (by kernel_rfl) ?_ (fun hHeld => ?_); (focus (first | with_reducible exact True.intro | ((try dsimp only); and_intros <;> first | (go_simp; done) | (go_keep; done)))); (refine lexTk 0 (v := ?_) rfl hHeld ?_ (by kernel_rfl) (fun _ _ _ h => h) ?_ ?_; rotate_left 2; (focus rfl); (focus (intro w hSw; (try dsimp only at hSw); first | (go_simp; done) | (go_simp; with_reducible rfl)))); (try simp only [Act.put, List.setIfInBounds_toArray, List.set_cons_zero, List.set_cons_succ]); (refine lexTk 1 (v := ?_) rfl hHeld ?_ (by kernel_rfl) (fun _ _ _ h => h) ?_ ?_; rotate_left 2; (focus rfl); (focus (intro w hSw; (try dsimp only at hSw); first | (go_simp; done) | (go_simp; with_reducible rfl)))); (try simp only [Act.put, List.setIfInBounds_toArray, List.set_cons_zero, List.set_cons_succ]); (refine lexTk 2 (v := ?_) rfl hHeld ?_ (by kernel_rfl) (fun _ _ _ h => h) ?_ ?_; rotate_left 2; (focus rfl); (focus (intro w hSw; (try dsimp only at hSw); first | (go_simp; done) | (go_simp; with_reducible rfl)))); (try simp only [Act.put, List.setIfInBounds_toArray, List.set_cons_zero, List.set_cons_succ]); (refine lexTk 3 (v := ?_) rfl hHeld ?_ (by kernel_rfl) (fun _ _ _ h => h) ?_ ?_; rotate_left 2; (focus rfl); (focus (intro w hSw; (try dsimp only at hSw); first | (go_simp; done) | (go_simp; with_reducible rfl)))); (try simp only [Act.put, List.setIfInBounds_toArray, List.set_cons_zero, List.set_cons_succ]); (refine lexTk 4 (v := ?_) rfl hHeld ?_ (by kernel_rfl) (fun _ _ _ h => h) ?_ ?_; rotate_left 2; (focus rfl); (focus (intro w hSw; (try dsimp only at hSw); first | (go_simp; done) | (go_simp; with_reducible rfl)))); (try simp only [Act.put, List.setIfInBounds_toArray, List.set_cons_zero, List.set_cons_succ]); (refine lexTk 5 (v := ?_) rfl hHeld ?_ (by kernel_rfl) (fun _ _ _ h => h) ?_ ?_; rotate_left 2; (focus rfl); (focus (intro w hSw; (try dsimp only at hSw); first | (go_simp; done) | (go_simp; with_reducible rfl)))); (try simp only [Act.put, List.setIfInBounds_toArray, List.set_cons_zero, List.set_cons_succ]); refine wpAnyH_done (by kernel_rfl) ?_ _
        go_wp2_with fail
        go_ret
        exact .inl ⟨rfl, HNO.out, by (repeat (first | with_reducible exact Below.refl _ _ | with_reducible refine Bs ?_ | with_reducible refine Ba ?_ | with_reducible refine Bd ?_ | with_reducible refine Bn ?_ | with_reducible refine Bt BB3.out ?_ | with_reducible refine Bt B2.out ?_))⟩
      · refine wp_region_held_drew (S := fun w' => w'.cell? ⟨b, k * 2, none⟩ = some (.int .i64 x) ∧ w'.cell? ⟨b, k * 2 + 1, none⟩ = some (.int .i64 y) ∧ w'.cell? ⟨w.heap.size, 0, none⟩ = some (.int .i64 p) ∧ w'.cell? ⟨w.heap.size, 1, none⟩ = some (.int .i64 q)) (by kernel_rfl) ?_ (fun hHeld => ?_); (focus (first | with_reducible exact True.intro | ((try dsimp only); and_intros <;> first | (go_simp; done) | (go_keep; done)))); (refine lexTk 0 (v := ?_) rfl hHeld ?_ (by kernel_rfl) (fun _ _ _ h => h) ?_ ?_; rotate_left 2; (focus rfl); (focus (intro w hSw; (try dsimp only at hSw); first | (go_simp; done) | (go_simp; with_reducible rfl)))); (try simp only [Act.put, List.setIfInBounds_toArray, List.set_cons_zero, List.set_cons_succ]); (refine lexTk 1 (v := ?_) rfl hHeld ?_ (by kernel_rfl) (fun _ _ _ h => h) ?_ ?_; rotate_left 2; (focus rfl); (focus (intro w hSw; (try dsimp only at hSw); first | (go_simp; done) | (go_simp; with_reducible rfl)))); (try simp only [Act.put, List.setIfInBounds_toArray, List.set_cons_zero, List.set_cons_succ]); (refine lexTk 2 (v := ?_) rfl hHeld ?_ (by kernel_rfl) (fun _ _ _ h => h) ?_ ?_; rotate_left 2; (focus rfl); (focus (intro w hSw; (try dsimp only at hSw); first | (go_simp; done) | (go_simp; with_reducible rfl)))); (try simp only [Act.put, List.setIfInBounds_toArray, List.set_cons_zero, List.set_cons_succ]); (refine lexTk 3 (v := ?_) rfl hHeld ?_ (by kernel_rfl) (fun _ _ _ h => h) ?_ ?_; rotate_left 2; (focus rfl); (focus (intro w hSw; (try dsimp only at hSw); first | (go_simp; done) | (go_simp; with_reducible rfl)))); (try simp only [Act.put, List.setIfInBounds_toArray, List.set_cons_zero, List.set_cons_succ]); (refine lexTk 4 (v := ?_) rfl hHeld ?_ (by kernel_rfl) (fun _ _ _ h => h) ?_ ?_; rotate_left 2; (focus rfl); (focus (intro w hSw; (try dsimp only at hSw); first | (go_simp; done) | (go_simp; with_reducible rfl)))); (try simp only [Act.put, List.setIfInBounds_toArray, List.set_cons_zero, List.set_cons_succ]); (refine lexTk 5 (v := ?_) rfl hHeld ?_ (by kernel_rfl) (fun _ _ _ h => h) ?_ ?_; rotate_left 2; (focus rfl); (focus (intro w hSw; (try dsimp only at hSw); first | (go_simp; done) | (go_simp; with_reducible rfl)))); (try simp only [Act.put, List.setIfInBounds_toArray, List.set_cons_zero, List.set_cons_succ]); refine wpAnyH_done (by kernel_rfl) ?_ _
        go_wp2_with fail
        go_ret
        exact .inl ⟨rfl, HNO.out, by (repeat (first | with_reducible exact Below.refl _ _ | with_reducible refine Bs ?_ | with_reducible refine Ba ?_ | with_reducible refine Bd ?_ | with_reducible refine Bn ?_ | with_reducible refine Bt BB3.out ?_ | with_reducible refine Bt B2.out ?_))⟩
    · have e0 := Decidable.not_not.1 hne
      injection e0 with e1 e2
      subst e1 e2
      clear hne
      refine wp_region_held_drew (S := fun w' => w'.cell? ⟨b, k * 2, none⟩ = some (.int .i64 x) ∧ w'.cell? ⟨b, k * 2 + 1, none⟩ = some (.int .i64 y) ∧ w'.cell? ⟨w.heap.size, 0, none⟩ = some (.int .i64 x) ∧ w'.cell? ⟨w.heap.size, 1, none⟩ = some (.int .i64 y)) (by kernel_rfl) ?_ (fun hHeld => ?_); (focus (first | with_reducible exact True.intro | ((try dsimp only); and_intros <;> first | (go_simp; done) | (go_keep; done)))); (refine lexTk 0 (v := ?_) rfl hHeld ?_ (by kernel_rfl) (fun _ _ _ h => h) ?_ ?_; rotate_left 2; (focus rfl); (focus (intro w hSw; (try dsimp only at hSw); first | (go_simp; done) | (go_simp; with_reducible rfl)))); (try simp only [Act.put, List.setIfInBounds_toArray, List.set_cons_zero, List.set_cons_succ]); (refine lexTk 1 (v := ?_) rfl hHeld ?_ (by kernel_rfl) (fun _ _ _ h => h) ?_ ?_; rotate_left 2; (focus rfl); (focus (intro w hSw; (try dsimp only at hSw); first | (go_simp; done) | (go_simp; with_reducible rfl)))); (try simp only [Act.put, List.setIfInBounds_toArray, List.set_cons_zero, List.set_cons_succ]); (refine lexTk 2 (v := ?_) rfl hHeld ?_ (by kernel_rfl) (fun _ _ _ h => h) ?_ ?_; rotate_left 2; (focus rfl); (focus (intro w hSw; (try dsimp only at hSw); first | (go_simp; done) | (go_simp; with_reducible rfl)))); (try simp only [Act.put, List.setIfInBounds_toArray, List.set_cons_zero, List.set_cons_succ]); (refine lexTk 3 (v := ?_) rfl hHeld ?_ (by kernel_rfl) (fun _ _ _ h => h) ?_ ?_; rotate_left 2; (focus rfl); (focus (intro w hSw; (try dsimp only at hSw); first | (go_simp; done) | (go_simp; with_reducible rfl)))); (try simp only [Act.put, List.setIfInBounds_toArray, List.set_cons_zero, List.set_cons_succ]); (refine lexTk 4 (v := ?_) rfl hHeld ?_ (by kernel_rfl) (fun _ _ _ h => h) ?_ ?_; rotate_left 2; (focus rfl); (focus (intro w hSw; (try dsimp only at hSw); first | (go_simp; done) | (go_simp; with_reducible rfl)))); (try simp only [Act.put, List.setIfInBounds_toArray, List.set_cons_zero, List.set_cons_succ]); (refine lexTk 5 (v := ?_) rfl hHeld ?_ (by kernel_rfl) (fun _ _ _ h => h) ?_ ?_; rotate_left 2; (focus rfl); (focus (intro w hSw; (try dsimp only at hSw); first | (go_simp; done) | (go_simp; with_reducible rfl)))); (try simp only [Act.put, List.setIfInBounds_toArray, List.set_cons_zero, List.set_cons_succ]); refine wpAnyH_done (by kernel_rfl) ?_ _
      have hM1 : 1 ≤ M := by omega
      have HB13 := Lib.hid (show BagAt (w3.setCell ⟨P, 1, none⟩ (.int .i64 ((M : Int) - 1))) P (.slice (some ⟨g, 0, none⟩) n c) vs bs (M - 1) by
        have := (HB2.out.below BB3.out).many (M - 1)
        rw [show ((M - 1 : Nat) : Int) = (M : Int) - 1 by omega] at this
        exact this)
      have j1 : IntKind.i64.wrap ((M : Int) - 1) = (M : Int) - 1 := by rw [IntKind.wrap_i64]; omega
      have j2 : IntKind.i64.wrap ((k : Int) + 1) = (k : Int) + 1 := by rw [IntKind.wrap_i64]; omega
      have hbP : b ≠ P := fun e => (List.nodup_cons.1 HB2.out.apart).1 (by rw [← e]; exact mem_blks HVI.out rfl)
      have hgP : g ≠ P := fun e => (List.nodup_cons.1 HB2.out.apart).1 (by rw [← e]; exact mem_blks0 rfl)
      have HOWN13 := Lib.hid (show (w3.setCell ⟨P, 1, none⟩ (.int .i64 ((M : Int) - 1))).ownsRow 0 24 2 (.slice (some ⟨b, 0, none⟩) n2 cc) n2 (l.flatMap pairF) from own_at HROW3.out fun q hq => by
        injection hq with hq
        subst hq
        exact Below.heap_setCell _ _ _ _ hbP)
      have O3 := Lib.hid (show OnlyIn (P :: blks (.slice (some ⟨g, 0, none⟩) n c) vs) w (w3.setCell ⟨P, 1, none⟩ (.int .i64 ((M : Int) - 1))) from (OnlyIn.ofBelow (show Below w.heap.size w w3 from by (repeat (first | with_reducible exact Below.refl _ _ | with_reducible refine Bs ?_ | with_reducible refine Ba ?_ | with_reducible refine Bd ?_ | with_reducible refine Bn ?_ | with_reducible refine Bt BB3.out ?_ | with_reducible refine Bt B2.out ?_)))).trans (OnlyIn.set (F := (P :: blks (.slice (some ⟨g, 0, none⟩) n c) vs)) P 1 _ (by simp)) (fun x hx => .inl hx))
      have hgf3 : w3.frozen? ⟨g, r, none⟩ = false := by
        have hrow := (HB2.out.below BB3.out).row
        rw [HN.out] at hrow
        exact World.ownsRow.frozenAt hrow r
      have hgb : g ≠ b := fun e => by
        have hn2 := (List.nodup_cons.1 HB2.out.apart).2
        have e0 : blks (.slice (some ⟨g, 0, none⟩) n c) vs = g :: vs.filterMap Value.ownBlock := by unfold blks; rw [List.filterMap_cons_some (show Value.ownBlock (.slice (some ⟨g, 0, none⟩) n c) = some g from rfl)]
        rw [e0] at hn2
        exact (List.nodup_cons.1 hn2).1 (List.mem_filterMap.2 ⟨_, List.mem_of_getElem? HVI.out, by rw [e]; rfl⟩)
      go_upto_region 13 with fail
      refine wp_region_held_drew (S := fun w' => w'.cell? ⟨P, 0, none⟩ = some (.slice (some ⟨g, 0, none⟩) n c)) (by kernel_rfl) ?_ (fun hHeld => ?_); (focus (first | with_reducible exact True.intro | ((try dsimp only); and_intros <;> first | (go_simp; done) | (go_keep; done)))); (refine lexTk 0 (v := ?_) rfl hHeld ?_ (by kernel_rfl) (fun _ _ _ h => h) ?_ ?_; rotate_left 2; (focus rfl); (focus (intro w hSw; (try dsimp only at hSw); first | (go_simp; done) | (go_simp; with_reducible rfl)))); (try simp only [Act.put, List.setIfInBounds_toArray, List.set_cons_zero, List.set_cons_succ]); (refine lexTk 1 (v := ?_) rfl hHeld ?_ (by kernel_rfl) (fun _ _ _ h => h) ?_ ?_; rotate_left 2; (focus rfl); (focus (intro w hSw; (try dsimp only at hSw); first | (go_simp; done) | (go_simp; with_reducible rfl)))); (try simp only [Act.put, List.setIfInBounds_toArray, List.set_cons_zero, List.set_cons_succ]); (refine lexTk 2 (v := ?_) rfl hHeld ?_ (by kernel_rfl) (fun _ _ _ h => h) ?_ ?_; rotate_left 2; (focus rfl); (focus (intro w hSw; (try dsimp only at hSw); first | (go_simp; done) | (go_simp; with_reducible rfl)))); (try simp only [Act.put, List.setIfInBounds_toArray, List.set_cons_zero, List.set_cons_succ]); (refine lexTk 3 (v := ?_) rfl hHeld ?_ (by kernel_rfl) (fun _ _ _ h => h) ?_ ?_; rotate_left 2; (focus rfl); (focus (intro w hSw; (try dsimp only at hSw); first | (go_simp; done) | (go_simp; with_reducible rfl)))); (try simp only [Act.put, List.setIfInBounds_toArray, List.set_cons_zero, List.set_cons_succ]); (refine lexTk 4 (v := ?_) rfl hHeld ?_ (by kernel_rfl) (fun _ _ _ h => h) ?_ ?_; rotate_left 2; (focus rfl); (focus (intro w hSw; (try dsimp only at hSw); first | (go_simp; done) | (go_simp; with_reducible rfl)))); (try simp only [Act.put, List.setIfInBounds_toArray, List.set_cons_zero, List.set_cons_succ]); (refine lexTk 5 (v := ?_) rfl hHeld ?_ (by kernel_rfl) (fun _ _ _ h => h) ?_ ?_; rotate_left 2; (focus rfl); (focus (intro w hSw; (try dsimp only at hSw); first | (go_simp; done) | (go_simp; with_reducible rfl)))); (try simp only [Act.put, List.setIfInBounds_toArray, List.set_cons_zero, List.set_cons_succ]); (refine lexTk 6 (v := ?_) rfl hHeld ?_ (by kernel_rfl) (fun _ _ _ h => h) ?_ ?_; rotate_left 2; (focus rfl); (focus (intro w hSw; (try dsimp only at hSw); first | (go_simp; done) | (go_simp; with_reducible rfl)))); (try simp only [Act.put, List.setIfInBounds_toArray, List.set_cons_zero, List.set_cons_succ]); (refine lexTk 7 (v := ?_) rfl hHeld ?_ (by kernel_rfl) (fun _ _ _ h => h) ?_ ?_; rotate_left 2; (focus rfl); (focus (intro w hSw; (try dsimp only at hSw); first | (go_simp; done) | (go_simp; with_reducible rfl)))); (try simp only [Act.put, List.setIfInBounds_toArray, List.set_cons_zero, List.set_cons_succ]); (refine lexTk 8 (v := ?_) rfl hHeld ?_ (by kernel_rfl) (fun _ _ _ h => h) ?_ ?_; rotate_left 2; (focus rfl); (focus (intro w hSw; (try dsimp only at hSw); first | (go_simp; done) | (go_simp; with_reducible rfl)))); (try simp only [Act.put, List.setIfInBounds_toArray, List.set_cons_zero, List.set_cons_succ]); refine lexHv 9 rfl ?_ (by kernel_rfl); (intro K hK); (go_simp; (go_at_call 88); ((with_reducible refine (delS_any 0 _ n2 k (l.flatMap pairF) _ (by (repeat (first | with_reducible exact HOWN13.out | with_reducible refine own_set ?_ (by first | omega | (simp; done) | (simp; omega)) | with_reducible refine own_drew ?_ | with_reducible refine World.ownsRow.alloc ?_ _ | exact HOWN13.out))) hkl (by omega) (pairF_all (l := l))).mono ?_)); (rintro e w4 ⟨u', rfl, hr4, hg4, hb4⟩); (have hr5 : w4.ownsRow 0 24 2 u' (n2 - 1) ((l.take k ++ l.drop (k + 1)).flatMap pairF) := (by rw [List.flatMap_append, ← pairF_take, ← pairF_drop]; exact hr4)); (have hll : (l.take k ++ l.drop (k + 1)).length = n2 - 1 := (by have := HN2.out; simp; omega)); (rw [← hll] at hr5); (have hx := BagAt.setRow' (HB13.out.below (by (repeat (first | with_reducible exact Below.refl _ _ | with_reducible refine Bs ?_ | with_reducible refine Ba ?_ | with_reducible refine Bd ?_ | with_reducible refine Bn ?_)))) HVI.out rfl hg4 hr5 (.inl hb4) rfl HN.out); (have O4 := Lib.hid ((O3.out.trans (OnlyIn.ofBelow (F := (P :: blks (.slice (some ⟨g, 0, none⟩) n c) vs)) (by (repeat (first | with_reducible exact Below.refl _ _ | with_reducible refine Bs ?_ | with_reducible refine Ba ?_ | with_reducible refine Bd ?_ | with_reducible refine Bn ?_)))) (fun x hx => .inl hx)).trans hx.2.1 (fun x hx => .inl hx))); (have X4 := Lib.hid hx.1); (have F4 := Lib.hid (fun x (h : x ∈ blks (.slice (some ⟨g, 0, none⟩) n c) (vs.set r u')) => (blks_split (v := (.slice (some ⟨g, 0, none⟩) n c)) HVI.out rfl).mem_iff.2 ((blks_set (v := (.slice (some ⟨g, 0, none⟩) n c)) HVI.out hb4).mem_iff.1 h))); (have p4_0 : w4.cell? ⟨P, 0, none⟩ = some (.slice (some ⟨g, 0, none⟩) n c) := gc hg4 (by go_simp) (by first | omega | (simp; omega)) hbP); (have p4_1 : w4.cell? ⟨g, r, none⟩ = some (.slice (some ⟨b, 0, none⟩) n2 cc) := gc hg4 (by go_simp) (by first | omega | (simp; omega)) (Ne.symm hgb)); (have p4_2 : w4.frozen? ⟨g, r, none⟩ = false := gf hg4 (by go_simp) (by first | omega | (simp; omega)) (Ne.symm hgb)); (have hsh : ∃ b4 c4, u' = .slice (some ⟨b4, 0, none⟩) (n2 - 1) c4 := (by rcases hr4.2 with ⟨h, _⟩ | ⟨g', cap', _, h, _⟩; (exfalso; rw [h] at hb4; cases hb4); exact ⟨g', cap', h⟩)); (have HR5 := Lib.hid hr5); (have HLL := Lib.hid hll); (have HB4 := Lib.hid hb4); (clear hr4 hr5 hg4 hb4 hx hll); (obtain ⟨b4, c4, rfl⟩ := hsh); (try go_wp2_with fail)); refine hK.out _ _ ?_ ?_; (focus (first | with_reducible exact True.intro | ((try dsimp only); and_intros <;> first | (go_simp; done) | (go_keep; done)))); (clear hHeld hK K); (intro hHeld); (try simp only [Act.put, List.setIfInBounds_toArray, List.set_cons_zero, List.set_cons_succ]); (refine lexTk 10 (v := ?_) rfl hHeld ?_ (by kernel_rfl) (fun _ _ _ h => h) ?_ ?_; rotate_left 2; (focus rfl); (focus (intro w hSw; (try dsimp only at hSw); first | (go_simp; done) | (go_simp; with_reducible rfl)))); (try simp only [Act.put, List.setIfInBounds_toArray, List.set_cons_zero, List.set_cons_succ]); refine lexHv 11 rfl ?_ (by kernel_rfl); (intro K hK); (go_simp); refine hK.out _ _ ?_ ?_; (focus (first | with_reducible exact True.intro | ((try dsimp only); and_intros <;> first | (go_simp; done) | (go_keep; done)))); (clear hHeld hK K); (intro hHeld); (try simp only [Act.put]); refine wpAnyH_done (by kernel_rfl) ?_ _
      have FD := Lib.hid (flat_del HP.out HL.out HXY.out)
      have hfl : (bs.set r (l.take k ++ l.drop (k + 1))).flatten.length = M - 1 := by
        have := FD.out.1.length_eq
        rw [List.length_cons, HMM.out] at this
        omega
      have hP4 := World.block_lt_of_cell? _ _ p4_0
      have hg4 := World.block_lt_of_cell? _ _ p4_1
      dsimp only at hP4 hg4
      have X5 := X4.out
      by_cases h1 : n2 = 1
      · subst h1
        obtain ⟨l0, hl0⟩ : ∃ l0, l.take k ++ l.drop (k + 1) = l0 := ⟨_, rfl⟩
        have hl00 : l0 = [] := List.eq_nil_of_length_eq_zero (by have := HLL.out; rw [hl0] at this; omega)
        rw [hl0, hl00] at hfl
        rw [hl0, hl00] at FD X4 X5
        have X40 : BagAt (w4.setCell ⟨g, r, none⟩ (.slice (some ⟨b4, 0, none⟩) 0 c4)) P (.slice (some ⟨g, 0, none⟩) n c) (vs.set r (.slice (some ⟨b4, 0, none⟩) 0 c4)) (bs.set r []) (M - 1) := X5
        have hlen : (bs.set r ([] : List (Int × Int))).length = n := by rw [List.length_set]; exact HN.out
        have c5 := X40.c0
        have hrow5 := X40.row
        rw [hlen] at hrow5
        have c6 := (World.ownsRow.cellAt hrow5 r (by omega)).trans (List.getElem?_set_self (by rw [HB2.out.len, HN.out]; exact hrn))
        have hq := delB_any 0 (.slice (some ⟨g, 0, none⟩) n c) n r (vs.set r (.slice (some ⟨b4, 0, none⟩) 0 c4)) (w4.setCell ⟨g, r, none⟩ (.slice (some ⟨b4, 0, none⟩) 0 c4)) hrow5 hrn (by omega) X40.one
        have HQ := Lib.hid hq
        have HX40 := Lib.hid X40
        clear X5 hrow5 hq X40
        go_wp2_with fail
        (with_reducible refine HQ.out.mono ?_)
        rintro e w5 ⟨v5, rfl, hr6, hg6, hb6⟩
        rw [Nat.mul_one, Nat.mul_one] at hr6
        have hg6' : (w4.setCell ⟨g, r, none⟩ (.slice (some ⟨b4, 0, none⟩) 0 c4)).grownBy w5 (some g) := hg6
        have hx6 := BagAt.delRow HX40.out (g := g) (c := c) (by rw [hlen]) (i := r) (by rw [hlen]; exact hrn) hg6' (by rw [hlen]; exact hr6) hb6
        have hsh : ∃ q5 c5, v5 = .slice (some ⟨q5, 0, none⟩) (n - 1) c5 := by
          rcases hr6.2 with ⟨h, _⟩ | ⟨q5, c5, _, h, _⟩
          · exfalso; rw [h] at hb6; cases hb6
          · exact ⟨q5, c5, h⟩
        obtain ⟨q5, c5', rfl⟩ := hsh
        have t0 : w5.cell? ⟨P, 0, none⟩ = some (.slice (some ⟨g, 0, none⟩) n c) := gc hg6' (by go_simp) (by first | omega | (simp; omega)) hgP
        have t1 : w5.frozen? ⟨P, 0, none⟩ = false := gf hg6' HX40.out.f0 (by first | omega | (simp; omega)) hgP
        clear hr6 hg6 hg6' hb6
        go_wp2_with fail
        go_ret
        have hal : allS (bs.set r ([] : List (Int × Int))).flatten = true := by
          have := allS_perm HP.out.all FD.out.1.symm
          unfold allS at this ⊢
          rw [List.all_cons, Bool.and_eq_true] at this
          exact this.2
        refine .inr ⟨rfl, _, _, (bs.set r []).eraseIdx r, ?_, ⟨fun l h => HP.out.some l (erase_mem bs r h), fun l h => HP.out.few l (erase_mem bs r h), ?_, ?_, ?_⟩, ?_, O4.out.trans hx6.2.1 (fun x hx => .inl (by rcases List.mem_cons.1 hx with h | h; exact List.mem_cons.2 (.inl h); exact List.mem_cons.2 (.inr (F4.out x h)))), fun x hx => F4.out x (hx6.2.2 x hx)⟩
        · rw [erase_nil, hfl]; exact hx6.1
        · rw [erase_nil]; exact FD.out.2
        · rw [erase_nil]; exact hal
        · rw [erase_nil]; omega
        · rw [erase_nil]; exact FD.out.1
      · have h2 : ¬ ((n2 - 1 : Nat) : Int) = 0 := by omega
        have h3 : ¬ (n2 - 1 = 0) := by omega
        have c5 := X5.c0
        have hrow5 := X5.row
        rw [List.length_set, HN.out] at hrow5
        have c6 := (World.ownsRow.cellAt hrow5 r (by omega)).trans (List.getElem?_set_self (by rw [HB2.out.len, HN.out]; exact hrn))
        clear X5 hrow5
        go_wp2_with fail
        go_ret
        have hal : allS (bs.set r (l.take k ++ l.drop (k + 1))).flatten = true := by
          have := allS_perm HP.out.all FD.out.1.symm
          unfold allS at this ⊢
          rw [List.all_cons, Bool.and_eq_true] at this
          exact this.2
        exact .inr ⟨rfl, _, _, _, by rw [hfl]; exact X4.out, bagP_ins HP.out (List.ne_nil_of_length_pos (by have := HLL.out; omega)) (by have := HLL.out; omega) FD.out.2 hal (by omega), FD.out.1, O4.out, F4.out⟩
end Go.Proofs.Ytjmjnkilgoelbaa
