/-
  Laws18: What must come of copselaw18.lives; bags among other things in memory.
  BagS: The reference's Same; an act, both ways.
  BagT: Plain laws of the scores that are put in, one behind the other.
-/
import Derived.Test.YtjmjnkilgoelbaaKBagR
namespace Go.Proofs.Ytjmjnkilgoelbaa
open Go.RowKit

theorem Moved.size {w w' : World} {F F' : List Nat} (m : Moved w w' F F') : w.heap.size ≤ w'.heap.size := m.1.size

theorem Moved.all {w w' : World} {F F' : List Nat} {B h : Nat} (m : Moved w w' F F') (hF : ∀ x ∈ F, B ≤ x ∧ x ≠ h) (hB : B ≤ w.heap.size) (hh : h < w.heap.size) :
    Below B w w' ∧ (∀ x ∈ F', B ≤ x ∧ x ≠ h) ∧ (∀ o, w'.cell? ⟨h, o, none⟩ = w.cell? ⟨h, o, none⟩) ∧ w.heap.size ≤ w'.heap.size := by
  refine ⟨m.1.below (fun b hb => (hF b hb).1) hB, fun x hx => ?_, fun o => ?_, m.1.size⟩
  · rcases m.2 x hx with h1 | h1
    · exact hF x h1
    · exact ⟨by omega, by omega⟩
  · exact World.cell?_of_block (a := ⟨h, o, none⟩) (m.1.block h hh fun hm => (hF h hm).2 rfl)

theorem Moved.low {w w' : World} {F F' : List Nat} {B : Nat} (m : Moved w w' F F') (hF : ∀ x ∈ F, B ≤ x) (hB : B ≤ w.heap.size) : Below B w w' ∧ (∀ x ∈ F', B ≤ x) := by
  refine ⟨m.1.below hF hB, fun x hx => ?_⟩
  rcases m.2 x hx with h1 | h1
  · exact hF x h1
  · omega

theorem t18a : putE [] (1, 2) = 0 := by decide +kernel
theorem t18b : putS [] (1, 2) = [(1, 2)] := by decide +kernel
theorem t18c : putE [(1, 2)] (3, 1) = 0 := by decide +kernel
theorem t18d : putS [(1, 2)] (3, 1) = [(3, 1), (1, 2)] := by decide +kernel
theorem t18e : putE [(3, 1), (1, 2)] (1, 2) = 0 := by decide +kernel
theorem t18f : putS [(3, 1), (1, 2)] (1, 2) = [(3, 1), (1, 2), (1, 2)] := by decide +kernel
theorem t18g : kthV [(3, 1), (1, 2), (1, 2)] 1 = (3, 1) := by decide +kernel
theorem t18h : kthE [(3, 1), (1, 2), (1, 2)] 1 = 0 := by decide +kernel
theorem t18i : rankA [(3, 1), (1, 2), (1, 2)] (1, 2) = 1 := by decide +kernel
theorem t18j : rankB [(3, 1), (1, 2), (1, 2)] (1, 2) = 2 := by decide +kernel
theorem t18k : rankE (1, 2) = 0 := by decide +kernel
theorem t18l : takE [(3, 1), (1, 2), (1, 2)] (1, 3) = 4 := by decide +kernel
theorem t18m : takS [(3, 1), (1, 2), (1, 2)] (1, 3) = [(3, 1), (1, 2), (1, 2)] := by decide +kernel

set_option maxRecDepth 100000 in
set_option maxHeartbeats 8000000 in
theorem lives18_any (w : World) : Calls Try.prog 15 #[] w fun e w' => e = .returned (.bool true) ∧ Below w.heap.size w w' := by
  have q1 := fun (F : List Nat) (W : World) (h : BagIn W w.heap.size F []) => addIn_any w.heap.size F [] 1 2 W h
  rw [t18a, t18b] at q1
  have q2 := fun (F : List Nat) (W : World) (h : BagIn W w.heap.size F [(1, 2)]) => addIn_any w.heap.size F [(1, 2)] 3 1 W h
  rw [t18c, t18d] at q2
  have q3 := fun (F : List Nat) (W : World) (h : BagIn W w.heap.size F [(3, 1), (1, 2)]) => addIn_any w.heap.size F [(3, 1), (1, 2)] 1 2 W h
  rw [t18e, t18f] at q3
  have q4 := fun (F : List Nat) (W : World) (h : BagIn W w.heap.size F [(3, 1), (1, 2), (1, 2)]) => kthIn_any w.heap.size F [(3, 1), (1, 2), (1, 2)] 1 W h
  rw [t18g, t18h] at q4
  have q5 := fun (F : List Nat) (W : World) (h : BagIn W w.heap.size F [(3, 1), (1, 2), (1, 2)]) => rankIn_all w.heap.size F [(3, 1), (1, 2), (1, 2)] 1 2 W h
  rw [t18i, t18j, t18k] at q5
  have q6 := fun (F : List Nat) (W : World) (h : BagIn W w.heap.size F [(3, 1), (1, 2), (1, 2)]) => dropIn_any w.heap.size F [(3, 1), (1, 2), (1, 2)] 1 3 W h
  rw [t18l, t18m] at q6
  have q7 := fun (F : List Nat) (W : World) (h : BagIn W w.heap.size F [(3, 1), (1, 2), (1, 2)]) => lenIn_any w.heap.size F [(3, 1), (1, 2), (1, 2)] W h
  have q8 := fun (F : List Nat) (W : World) (h : BagIn W w.heap.size F [(3, 1), (1, 2), (1, 2)]) => allIn_any w.heap.size F [(3, 1), (1, 2), (1, 2)] W h
  have Q1 := Lib.hid q1; have Q2 := Lib.hid q2; have Q3 := Lib.hid q3; have Q4 := Lib.hid q4; have Q5 := Lib.hid q5; have Q6 := Lib.hid q6; have Q7 := Lib.hid q7; have Q8 := Lib.hid q8
  clear q1 q2 q3 q4 q5 q6 q7 q8
  go_enter Try.func15, Try.ntmps15
  go_wp2_with fail
  (with_reducible refine (newIn_any _).mono ?_); rintro e w1 ⟨rfl, bg1, b1⟩; have s1 : w.heap.size ≤ w1.heap.size := sz b1; have B1 := Lib.hid (Bc (B := w.heap.size) (a := w) (by (repeat (first | with_reducible exact Below.refl _ _ | with_reducible refine Bs ?_ | with_reducible refine Ba ?_ | with_reducible refine Bd ?_ | with_reducible refine Bn ?_))) b1); clear b1
  have BG1 := Lib.hid bg1
  have hPl : w.heap.size < w1.heap.size := bg1.lt (by simp)
  have HF1 := Lib.hid (show ∀ x ∈ [w.heap.size], w.heap.size ≤ x ∧ x ≠ w1.heap.size from fun x hx => by simp at hx; omega)
  clear bg1
  go_wp2_with fail
  refine wp_region_held_drew (S := fun w' => w'.cell? ⟨w1.heap.size, 0, none⟩ = some (.int .i64 1) ∧ w'.cell? ⟨w1.heap.size, 1, none⟩ = some (.int .i64 2)) (by kernel_rfl) ?_ (fun hHeld => ?_); (focus (first | with_reducible exact True.intro | ((try dsimp only); and_intros <;> first | (go_simp; done) | (go_keep; done)))); (refine lexTk 0 (v := ?_) rfl hHeld ?_ (by kernel_rfl) (fun _ _ _ h => h) ?_ ?_; rotate_left 2; (focus rfl); (focus (intro w hSw; (try dsimp only at hSw); first | (go_simp; done) | (go_simp; with_reducible rfl)))); (try simp only [Act.put, List.setIfInBounds_toArray, List.set_cons_zero, List.set_cons_succ]); (refine lexTk 1 (v := ?_) rfl hHeld ?_ (by kernel_rfl) (fun _ _ _ h => h) ?_ ?_; rotate_left 2; (focus rfl); (focus (intro w hSw; (try dsimp only at hSw); first | (go_simp; done) | (go_simp; with_reducible rfl)))); (try simp only [Act.put, List.setIfInBounds_toArray, List.set_cons_zero, List.set_cons_succ]); (refine lexTk 3 (v := ?_) rfl hHeld ?_ (by kernel_rfl) (fun _ _ _ h => h) ?_ ?_; rotate_left 2; (focus rfl); (focus (intro w hSw; (try dsimp only at hSw); first | (go_simp; done) | (go_simp; with_reducible rfl)))); (try simp only [Act.put, List.setIfInBounds_toArray, List.set_cons_zero, List.set_cons_succ]); (refine lexTk 4 (v := ?_) rfl hHeld ?_ (by kernel_rfl) (fun _ _ _ h => h) ?_ ?_; rotate_left 2; (focus rfl); (focus (intro w hSw; (try dsimp only at hSw); first | (go_simp; done) | (go_simp; with_reducible rfl)))); (try simp only [Act.put, List.setIfInBounds_toArray, List.set_cons_zero, List.set_cons_succ]); (refine lexTk 6 (v := ?_) rfl hHeld ?_ (by kernel_rfl) (fun _ _ _ h => h) ?_ ?_; rotate_left 2; (focus rfl); (focus (intro w hSw; (try dsimp only at hSw); first | (go_simp; done) | (go_simp; with_reducible rfl)))); (try simp only [Act.put, List.setIfInBounds_toArray, List.set_cons_zero, List.set_cons_succ]); (refine lexTk 7 (v := ?_) rfl hHeld ?_ (by kernel_rfl) (fun _ _ _ h => h) ?_ ?_; rotate_left 2; (focus rfl); (focus (intro w hSw; (try dsimp only at hSw); first | (go_simp; done) | (go_simp; with_reducible rfl)))); (try simp only [Act.put, List.setIfInBounds_toArray, List.set_cons_zero, List.set_cons_succ]); refine lexHv 2 rfl ?_ (by kernel_rfl); (intro K hK); (go_simp; go_at_call 23; (with_reducible refine (Q1.out _ _ (BG1.out.below (by (repeat (first | with_reducible exact Below.refl _ _ | with_reducible refine Bs ?_ | with_reducible refine Ba ?_ | with_reducible refine Bd ?_ | with_reducible refine Bn ?_))))).mono ?_); rintro e w2 ⟨rfl, F2, bg2, mv2⟩; (have BG2 := Lib.hid bg2); (obtain ⟨b2, hf2, hc2, s2⟩ := mv2.all (B := w.heap.size) (h := w1.heap.size) HF1.out (by simp; omega) (by simp)); (have B2 := Lib.hid (Bc (B := w.heap.size) (a := w) (by (repeat (first | with_reducible exact Below.refl _ _ | with_reducible refine Bs ?_ | with_reducible refine Ba ?_ | with_reducible refine Bd ?_ | with_reducible refine Bn ?_ | with_reducible refine Bt B1.out ?_))) b2)); (have HF2 := Lib.hid hf2); (have c2_0 : w2.cell? ⟨w1.heap.size, 0, none⟩ = some (.int .i64 1) := (hc2 0).trans (by go_simp)); (have c2_1 : w2.cell? ⟨w1.heap.size, 1, none⟩ = some (.int .i64 2) := (hc2 1).trans (by go_simp)); (have z2 : w1.heap.size < w2.heap.size := by simp at s2; omega); (clear bg2 mv2 b2 hf2 hc2 s2); (try go_wp2_with fail)); refine hK.out _ _ ?_ ?_; (focus (first | with_reducible exact True.intro | ((try dsimp only); and_intros <;> first | (go_simp; done) | (go_keep; done)))); (clear hHeld hK K); (intro hHeld); (try simp only [Act.put, List.setIfInBounds_toArray, List.set_cons_zero, List.set_cons_succ]); refine lexHv 5 rfl ?_ (by kernel_rfl); (intro K hK); (go_simp; go_at_call 23; (with_reducible refine (Q2.out _ _ (BG2.out.below (by (repeat (first | with_reducible exact Below.refl _ _ | with_reducible refine Bs ?_ | with_reducible refine Ba ?_ | with_reducible refine Bd ?_ | with_reducible refine Bn ?_))))).mono ?_); rintro e w3 ⟨rfl, F3, bg3, mv3⟩; (have BG3 := Lib.hid bg3); (obtain ⟨b3, hf3, hc3, s3⟩ := mv3.all (B := w.heap.size) (h := w1.heap.size) HF2.out (by first | omega | (simp; omega)) (by first | omega | (simp; omega))); (have B3 := Lib.hid (Bc (B := w.heap.size) (a := w) (by (repeat (first | with_reducible exact Below.refl _ _ | with_reducible refine Bs ?_ | with_reducible refine Ba ?_ | with_reducible refine Bd ?_ | with_reducible refine Bn ?_ | with_reducible refine Bt B2.out ?_))) b3)); (have HF3 := Lib.hid hf3); (have c3_0 : w3.cell? ⟨w1.heap.size, 0, none⟩ = some (.int .i64 1) := (hc3 0).trans (by go_simp)); (have c3_1 : w3.cell? ⟨w1.heap.size, 1, none⟩ = some (.int .i64 2) := (hc3 1).trans (by go_simp)); (have z3 : w1.heap.size < w3.heap.size := by first | omega | (simp at s3; omega)); (clear bg3 mv3 b3 hf3 hc3 s3); (try go_wp2_with fail)); refine hK.out _ _ ?_ ?_; (focus (first | with_reducible exact True.intro | ((try dsimp only); and_intros <;> first | (go_simp; done) | (go_keep; done)))); (clear hHeld hK K); (intro hHeld); (try simp only [Act.put, List.setIfInBounds_toArray, List.set_cons_zero, List.set_cons_succ]); refine lexHv 8 rfl ?_ (by kernel_rfl); (intro K hK); (go_simp; go_at_call 23; (with_reducible refine (Q3.out _ _ (BG3.out.below (by (repeat (first | with_reducible exact Below.refl _ _ | with_reducible refine Bs ?_ | with_reducible refine Ba ?_ | with_reducible refine Bd ?_ | with_reducible refine Bn ?_))))).mono ?_); rintro e w4 ⟨rfl, F4, bg4, mv4⟩; (have BG4 := Lib.hid bg4); (obtain ⟨b4, hf4, hc4, s4⟩ := mv4.all (B := w.heap.size) (h := w1.heap.size) HF3.out (by first | omega | (simp; omega)) (by first | omega | (simp; omega))); (have B4 := Lib.hid (Bc (B := w.heap.size) (a := w) (by (repeat (first | with_reducible exact Below.refl _ _ | with_reducible refine Bs ?_ | with_reducible refine Ba ?_ | with_reducible refine Bd ?_ | with_reducible refine Bn ?_ | with_reducible refine Bt B3.out ?_))) b4)); (have HF4 := Lib.hid hf4); (have c4_0 : w4.cell? ⟨w1.heap.size, 0, none⟩ = some (.int .i64 1) := (hc4 0).trans (by go_simp)); (have c4_1 : w4.cell? ⟨w1.heap.size, 1, none⟩ = some (.int .i64 2) := (hc4 1).trans (by go_simp)); (have z4 : w1.heap.size < w4.heap.size := by first | omega | (simp at s4; omega)); (clear bg4 mv4 b4 hf4 hc4 s4); (try go_wp2_with fail)); refine hK.out _ _ ?_ ?_; (focus (first | with_reducible exact True.intro | ((try dsimp only); and_intros <;> first | (go_simp; done) | (go_keep; done)))); (clear hHeld hK K); (intro hHeld); (try simp only [Act.put, List.setIfInBounds_toArray, List.set_cons_zero, List.set_cons_succ]); (refine lexTk 9 (v := ?_) rfl hHeld ?_ (by kernel_rfl) (fun _ _ _ h => h) ?_ ?_; rotate_left 2; (focus rfl); (focus (intro w hSw; (try dsimp only at hSw); first | (go_simp; done) | (go_simp; with_reducible rfl)))); (try simp only [Act.put, List.setIfInBounds_toArray, List.set_cons_zero, List.set_cons_succ]); (refine lexTk 10 (v := ?_) rfl hHeld ?_ (by kernel_rfl) (fun _ _ _ h => h) ?_ ?_; rotate_left 2; (focus rfl); (focus (intro w hSw; (try dsimp only at hSw); first | (go_simp; done) | (go_simp; with_reducible rfl)))); (try simp only [Act.put, List.setIfInBounds_toArray, List.set_cons_zero, List.set_cons_succ]); (refine lexTk 11 (v := ?_) rfl hHeld ?_ (by kernel_rfl) (fun _ _ _ h => h) ?_ ?_; rotate_left 2; (focus rfl); (focus (intro w hSw; (try dsimp only at hSw); first | (go_simp; done) | (go_simp; with_reducible rfl)))); (try simp only [Act.put, List.setIfInBounds_toArray, List.set_cons_zero, List.set_cons_succ]); refine wpAnyH_done (by kernel_rfl) ?_ _
  have HLT := Lib.hid (show ∀ x ∈ F4, x < w4.heap.size from fun x hx => BG4.out.lt hx)
  go_wp2_with fail
  (with_reducible refine (Q4.out _ _ BG4.out).mono ?_); rintro e w5 ⟨rfl, b5⟩; have s5 : w4.heap.size ≤ w5.heap.size := sz b5; have B5 := Lib.hid (Bc (B := w.heap.size) (a := w) (by (repeat (first | with_reducible exact Below.refl _ _ | with_reducible refine Bs ?_ | with_reducible refine Ba ?_ | with_reducible refine Bd ?_ | with_reducible refine Bn ?_ | with_reducible refine Bt B4.out ?_))) b5); obtain ⟨c5_0, c5_1⟩ := k2 (w1.heap.size) (.int .i64 1) (.int .i64 2) b5 (by and_intros <;> go_simp); obtain ⟨l5_0, n5_0, m5_0⟩ := lnm (show w1.heap.size < w5.heap.size by omega); have BG4 := Lib.hid ((BG4.out.below (by (repeat (first | with_reducible exact Below.refl _ _ | with_reducible refine Bs ?_ | with_reducible refine Ba ?_ | with_reducible refine Bd ?_ | with_reducible refine Bn ?_)))).below b5); clear b5
  have HG4 := Lib.hid (show ∀ x ∈ F4, w.heap.size ≤ x ∧ x ≠ w5.heap.size from fun x hx => ⟨(HF4.out x hx).1, by have := HLT.out x hx; omega⟩)
  go_wp2_with fail
  (with_reducible refine (Q5.out _ _ (BG4.out.below (by (repeat (first | with_reducible exact Below.refl _ _ | with_reducible refine Bs ?_ | with_reducible refine Ba ?_ | with_reducible refine Bd ?_ | with_reducible refine Bn ?_))))).mono ?_); rintro e w6 ⟨rfl, b6⟩; have s6 : w5.heap.size + 1 ≤ w6.heap.size := sz b6; have B6 := Lib.hid (Bc (B := w.heap.size) (a := w) (by (repeat (first | with_reducible exact Below.refl _ _ | with_reducible refine Bs ?_ | with_reducible refine Ba ?_ | with_reducible refine Bd ?_ | with_reducible refine Bn ?_ | with_reducible refine Bt B5.out ?_))) b6); obtain ⟨c6_0, c6_1⟩ := k2 (w1.heap.size) (.int .i64 1) (.int .i64 2) b6 (by and_intros <;> go_simp); obtain ⟨c6_2, c6_3⟩ := k2 (w5.heap.size) (.int .i64 3) (.int .i64 1) b6 (by and_intros <;> go_simp); obtain ⟨l6_0, n6_0, m6_0⟩ := lnm (show w1.heap.size < w6.heap.size by omega); obtain ⟨l6_1, n6_1, m6_1⟩ := lnm (show w5.heap.size < w6.heap.size by omega); have BG4 := Lib.hid ((BG4.out.below (by (repeat (first | with_reducible exact Below.refl _ _ | with_reducible refine Bs ?_ | with_reducible refine Ba ?_ | with_reducible refine Bd ?_ | with_reducible refine Bn ?_)))).below b6); clear b6
  go_wp2_with fail
  (with_reducible refine (Q6.out _ _ (BG4.out.below (by (repeat (first | with_reducible exact Below.refl _ _ | with_reducible refine Bs ?_ | with_reducible refine Ba ?_ | with_reducible refine Bd ?_ | with_reducible refine Bn ?_))))).mono ?_)
  rintro e w7 ⟨rfl, F7, bg7, mv7⟩
  have BG7 := Lib.hid bg7
  obtain ⟨b7, hf7, hc7, s7⟩ := mv7.all (B := w.heap.size) (h := w1.heap.size) HF4.out (by omega) (by omega)
  obtain ⟨_, _, hd7, _⟩ := mv7.all (B := w.heap.size) (h := w5.heap.size) HG4.out (by omega) (by omega)
  have B7 := Lib.hid (Bc (B := w.heap.size) (a := w) (by (repeat (first | with_reducible exact Below.refl _ _ | with_reducible refine Bs ?_ | with_reducible refine Ba ?_ | with_reducible refine Bd ?_ | with_reducible refine Bn ?_ | with_reducible refine Bt B6.out ?_))) b7)
  have c7_0 : w7.cell? ⟨w1.heap.size, 0, none⟩ = some (.int .i64 1) := (hc7 0).trans (by go_simp)
  have c7_1 : w7.cell? ⟨w1.heap.size, 1, none⟩ = some (.int .i64 2) := (hc7 1).trans (by go_simp)
  have d7_0 : w7.cell? ⟨w5.heap.size, 0, none⟩ = some (.int .i64 3) := (hd7 0).trans (by go_simp)
  have d7_1 : w7.cell? ⟨w5.heap.size, 1, none⟩ = some (.int .i64 1) := (hd7 1).trans (by go_simp)
  have z7 : w5.heap.size < w7.heap.size := by omega
  clear bg7 mv7 b7 hf7 hc7 hd7 s7
  go_wp2_with fail
  (with_reducible refine (Q7.out _ _ BG7.out).mono ?_)
  rintro e w8 ⟨rfl, rfl⟩
  go_wp2_with fail
  (with_reducible refine (Q8.out _ _ BG7.out).mono ?_); rintro e w9 ⟨v9, rfl, p9, b9⟩; have s9 : w7.heap.size ≤ w9.heap.size := sz b9; have B9 := Lib.hid (Bc (B := w.heap.size) (a := w) (by (repeat (first | with_reducible exact Below.refl _ _ | with_reducible refine Bs ?_ | with_reducible refine Ba ?_ | with_reducible refine Bd ?_ | with_reducible refine Bn ?_ | with_reducible refine Bt B7.out ?_))) b9); obtain ⟨c9_0, c9_1⟩ := k2 (w1.heap.size) (.int .i64 1) (.int .i64 2) b9 (by and_intros <;> go_simp); obtain ⟨l9_0, n9_0, m9_0⟩ := lnm (show w1.heap.size < w9.heap.size by omega); clear b9
  obtain ⟨a9, k9, rfl⟩ := p9.shape
  clear p9
  go_wp2_with fail
  (with_reducible refine (add_nil 1 2 _).mono ?_); rintro e w10 ⟨rfl, b10⟩; have s10 : w9.heap.size ≤ w10.heap.size := sz b10; have B10 := Lib.hid (Bc (B := w.heap.size) (a := w) (by (repeat (first | with_reducible exact Below.refl _ _ | with_reducible refine Bs ?_ | with_reducible refine Ba ?_ | with_reducible refine Bd ?_ | with_reducible refine Bn ?_ | with_reducible refine Bt B9.out ?_))) b10); clear b10
  go_wp2_with fail
  (with_reducible refine (len_nil _).mono ?_)
  rintro e w11 ⟨rfl, rfl⟩
  go_wp2_with fail
  go_ret
  exact ⟨rfl, B10.out⟩
end Go.Proofs.Ytjmjnkilgoelbaa

namespace Go.Proofs.Ytjmjnkilgoelbaa
open Go.RowKit

set_option maxRecDepth 100000 in
set_option maxHeartbeats 4000000 in
/-- The same scores are the same. -/
theorem same13_eq (v u : Value) (l : List (Int × Int)) (w : World) (hv : PairsR w v l) (hu : PairsR w u l) : Calls Try.prog 18 #[v, u] w fun e w' => e = .returned (.bool true) ∧ Below w.heap.size w w' := by
  obtain ⟨a, c, rfl⟩ := hv.shape
  obtain ⟨a2, c2, rfl⟩ := hu.shape
  have hlen : l.length ≤ 140737488351232 := by obtain ⟨_, _, _, _, _, h3, _⟩ := hv; exact h3
  have HV := Lib.hid hv
  have HU := Lib.hid hu
  clear hv hu
  obtain ⟨n, hn⟩ : ∃ n, l.length = n := ⟨_, rfl⟩
  have HN := Lib.hid hn
  rw [hn] at HV HU hlen ⊢
  clear hn
  go_enter Try.func18, Try.ntmps18
  go_wp2_with fail
  go_loopw [5] (fun i wr => ∃ k : Nat, i = .int .i64 k ∧ k ≤ n ∧ Below w.heap.size w wr) (fun i _ => n - (intOf i).toNat)
  case atStart => exact ⟨0, rfl, by omega, Below.refl _ _⟩
  case round =>
    obtain ⟨k, rfl, hk, hbr⟩ := hrel
    have BR := Lib.hid hbr
    by_cases hkn : k < n
    · obtain ⟨⟨x, y⟩, hx⟩ := getElem?_ex (l := l) (k := k) (by rw [HN.out]; exact hkn)
      obtain ⟨b, o, rfl, hb1, _, _⟩ := HV.out.cells hx
      obtain ⟨b2, o2, rfl, hb2, _, _⟩ := HU.out.cells hx
      obtain ⟨_, c0, c1⟩ := (HV.out.below hbr).at hx
      obtain ⟨_, d0, d1⟩ := (HU.out.below hbr).at hx
      dsimp only at c0 c1 d0 d1
      have i1 : (0 : Int) ≤ (k : Int) := by omega
      have i2 : (k : Int) < (n : Int) := by omega
      clear hx hbr
      go_wp2_with fail
      refine wp_region_held_drew (S := fun w' => w'.cell? ⟨b, o + k * 2, none⟩ = some (.int .i64 x) ∧ w'.cell? ⟨b, o + k * 2 + 1, none⟩ = some (.int .i64 y) ∧ w'.cell? ⟨b2, o2 + k * 2, none⟩ = some (.int .i64 x) ∧ w'.cell? ⟨b2, o2 + k * 2 + 1, none⟩ = some (.int .i64 y)) (by kernel_rfl) ?_ (fun hHeld => ?_); (focus (first | with_reducible exact True.intro | ((try dsimp only); and_intros <;> first | (go_simp; done) | (go_keep; done)))); (refine lexTk 0 (v := ?_) rfl hHeld ?_ (by kernel_rfl) (fun _ _ _ h => h) ?_ ?_; rotate_left 2; (focus rfl); (focus (intro w hSw; (try dsimp only at hSw); first | (go_simp; done) | (go_simp; with_reducible rfl)))); (try simp only [Act.put, List.setIfInBounds_toArray, List.set_cons_zero, List.set_cons_succ]); (refine lexTk 1 (v := ?_) rfl hHeld ?_ (by kernel_rfl) (fun _ _ _ h => h) ?_ ?_; rotate_left 2; (focus rfl); (focus (intro w hSw; (try dsimp only at hSw); first | (go_simp; done) | (go_simp; with_reducible rfl)))); (try simp only [Act.put, List.setIfInBounds_toArray, List.set_cons_zero, List.set_cons_succ]); (refine lexTk 2 (v := ?_) rfl hHeld ?_ (by kernel_rfl) (fun _ _ _ h => h) ?_ ?_; rotate_left 2; (focus rfl); (focus (intro w hSw; (try dsimp only at hSw); first | (go_simp; done) | (go_simp; with_reducible rfl)))); (try simp only [Act.put, List.setIfInBounds_toArray, List.set_cons_zero, List.set_cons_succ]); (refine lexTk 3 (v := ?_) rfl hHeld ?_ (by kernel_rfl) (fun _ _ _ h => h) ?_ ?_; rotate_left 2; (focus rfl); (focus (intro w hSw; (try dsimp only at hSw); first | (go_simp; done) | (go_simp; with_reducible rfl)))); (try simp only [Act.put, List.setIfInBounds_toArray, List.set_cons_zero, List.set_cons_succ]); (refine lexTk 4 (v := ?_) rfl hHeld ?_ (by kernel_rfl) (fun _ _ _ h => h) ?_ ?_; rotate_left 2; (focus rfl); (focus (intro w hSw; (try dsimp only at hSw); first | (go_simp; done) | (go_simp; with_reducible rfl)))); (try simp only [Act.put, List.setIfInBounds_toArray, List.set_cons_zero, List.set_cons_succ]); (refine lexTk 5 (v := ?_) rfl hHeld ?_ (by kernel_rfl) (fun _ _ _ h => h) ?_ ?_; rotate_left 2; (focus rfl); (focus (intro w hSw; (try dsimp only at hSw); first | (go_simp; done) | (go_simp; with_reducible rfl)))); (try simp only [Act.put, List.setIfInBounds_toArray, List.set_cons_zero, List.set_cons_succ]); (refine lexTk 6 (v := ?_) rfl hHeld ?_ (by kernel_rfl) (fun _ _ _ h => h) ?_ ?_; rotate_left 2; (focus rfl); (focus (intro w hSw; (try dsimp only at hSw); first | (go_simp; done) | (go_simp; with_reducible rfl)))); (try simp only [Act.put, List.setIfInBounds_toArray, List.set_cons_zero, List.set_cons_succ]); (refine lexTk 7 (v := ?_) rfl hHeld ?_ (by kernel_rfl) (fun _ _ _ h => h) ?_ ?_; rotate_left 2; (focus rfl); (focus (intro w hSw; (try dsimp only at hSw); first | (go_simp; done) | (go_simp; with_reducible rfl)))); (try simp only [Act.put, List.setIfInBounds_toArray, List.set_cons_zero, List.set_cons_succ]); (refine lexTk 8 (v := ?_) rfl hHeld ?_ (by kernel_rfl) (fun _ _ _ h => h) ?_ ?_; rotate_left 2; (focus rfl); (focus (intro w hSw; (try dsimp only at hSw); first | (go_simp; done) | (go_simp; with_reducible rfl)))); (try simp only [Act.put, List.setIfInBounds_toArray, List.set_cons_zero, List.set_cons_succ]); refine wpAnyH_done (by kernel_rfl) ?_ _
      go_wp2_with fail
      refine ⟨⟨k + 1, by go_num, by omega, by (repeat (first | with_reducible exact Below.refl _ _ | with_reducible refine Bs ?_ | with_reducible refine Ba ?_ | with_reducible refine Bd ?_ | with_reducible refine Bn ?_ | with_reducible refine Bt BR.out ?_))⟩, by simp [intOf]; omega⟩
    · obtain rfl : k = n := by omega
      go_wp2_with fail
      go_ret
      exact ⟨rfl, BR.out⟩

/-- A slice does not lie in the blocks F. -/
def Off (v : Value) (F : List Nat) : Prop := ∀ a n c, v = .slice (some a) n c → n ≠ 0 → a.block ∉ F

theorem Off.nil (a : Option Addr) (c : Nat) (F : List Nat) : Off (.slice a 0 c) F := fun a' n' c' e h0 => by
  injection e with _ e2 _
  exact absurd e2.symm h0

theorem Off.fresh {v : Value} {F : List Nat} {B : Nat} (h : Fresh B v) (hF : ∀ x ∈ F, x < B) : Off v F := fun a n c e h0 hm => by
  have h1 := h a n c e h0
  have h2 := hF _ hm
  omega

theorem PairsR.keep {w w' : World} {v : Value} {l : List (Int × Int)} {F : List Nat} (h : PairsR w v l) (hv : Off v F) (k : OnlyIn F w w') : PairsR w' v l := by
  obtain ⟨a, c, rfl, h1, h2, h3, h⟩ := h
  refine ⟨a, c, rfl, h1, h2, h3, fun i p hi => ?_⟩
  obtain ⟨b, o, rfl, hb, c0, c1⟩ := h i p hi
  have hn : l.length ≠ 0 := by have := (List.getElem?_eq_some_iff.1 hi).1; omega
  have hbF := hv ⟨b, o, none⟩ _ _ rfl hn
  have hk := k.block b hb hbF
  exact ⟨b, o, rfl, Nat.lt_of_lt_of_le hb k.size, (World.cell?_of_block (a := ⟨b, _, none⟩) hk).trans c0, (World.cell?_of_block (a := ⟨b, _, none⟩) hk).trans c1⟩

theorem Off.moved {w w' : World} {v : Value} {l : List (Int × Int)} {F F' : List Nat} (hv : Off v F) (h : PairsR w v l) (m : Moved w w' F F') : Off v F' := fun a n c e h0 hm => by
  rcases m.2 _ hm with h1 | h1
  · exact hv a n c e h0 h1
  · obtain ⟨a', c', e', _, _, _, hc⟩ := h
    rw [e] at e'
    injection e' with e1 e2 e3
    subst e2
    obtain ⟨p, hp⟩ := getElem?_ex (l := l) (k := 0) (by omega)
    obtain ⟨b, o, e4, hb, _⟩ := hc 0 p hp
    rw [← e1] at e4
    injection e4 with e4
    subst e4
    have h2 : w.heap.size ≤ b := h1
    omega

/-- What an act makes of scores. -/
def doL (l : List (Int × Int)) (d : Int) (s : Int × Int) : List (Int × Int) := if d = 0 then putS l s else takS l s

theorem Scores.act {l : List (Int × Int)} (h : Scores l) (d : Int) (s : Int × Int) : Scores (doL l d s) := by
  unfold doL
  split
  · exact h.put s
  · exact h.tak s

set_option maxRecDepth 100000 in
set_option maxHeartbeats 4000000 in
theorem do_any (P : Nat) (F : List Nat) (l : List (Int × Int)) (v : Value) (d p q : Int) (w : World) (h : BagIn w P F l) (hv : PairsR w v l) (hf : Off v F) :
    Calls Try.prog 16 #[.pointer (some ⟨P, 0, none⟩), v, .agg #[.int .i64 d, .int .i64 p, .int .i64 q]] w fun e w' => ∃ v' F', e = .returned (.tuple #[v', .bool true]) ∧ BagIn w' P F' (doL l d (p, q)) ∧ PairsR w' v' (doL l d (p, q)) ∧ Off v' F' ∧ Moved w w' F F' := by
  obtain ⟨a, c, rfl⟩ := hv.shape
  have HV := Lib.hid hv
  have HB := Lib.hid h
  have HSC := Lib.hid h.scores
  have HOF := Lib.hid hf
  have HLT := Lib.hid (show ∀ x ∈ F, x < w.heap.size from fun x hx => h.lt hx)
  obtain ⟨n, hn⟩ : ∃ n, l.length = n := ⟨_, rfl⟩
  have HN := Lib.hid hn
  rw [hn] at HV HOF ⊢
  clear h hv hf hn
  by_cases hd : d = 0
  · subst hd
    have HD := Lib.hid (show doL l 0 (p, q) = putS l (p, q) from if_pos rfl)
    rw [HD.out]
    obtain ⟨V, hV⟩ : ∃ V, putS l (p, q) = V := ⟨_, rfl⟩
    obtain ⟨E, hE⟩ : ∃ V, putE l (p, q) = V := ⟨_, rfl⟩
    have HA := Lib.hid (fun W (hW : PairsR W (.slice a n c) l) => radd_any a n c l p q W hW HN.out HSC.out)
    have HP := Lib.hid (fun W (hW : BagIn W P F l) => addIn_any P F l p q W hW)
    rw [hV, hE] at HA HP
    rw [hV]
    clear hV hE HD
    go_enter Try.func16, Try.ntmps16
    go_wp2_with fail
    (with_reducible refine (HA.out _ (HV.out.below (by (repeat (first | with_reducible exact Below.refl _ _ | with_reducible refine Bs ?_ | with_reducible refine Ba ?_ | with_reducible refine Bd ?_ | with_reducible refine Bn ?_))))).mono ?_); rintro e w1 ⟨v1, rfl, p1, b1, f1⟩; have s1 : w.heap.size + 1 ≤ w1.heap.size := sz b1; have B1 := Lib.hid (Bc (B := w.heap.size) (a := w) (by (repeat (first | with_reducible exact Below.refl _ _ | with_reducible refine Bs ?_ | with_reducible refine Ba ?_ | with_reducible refine Bd ?_ | with_reducible refine Bn ?_))) b1); obtain ⟨c1_0, c1_1, c1_2⟩ := k3 (w.heap.size) (.int .i64 0) (.int .i64 p) (.int .i64 q) b1 (by and_intros <;> go_simp); obtain ⟨l1_0, n1_0, m1_0⟩ := lnm (show w.heap.size < w1.heap.size by omega); clear b1
    have P1 := Lib.hid p1
    have F1 := Lib.hid (show Off v1 F from by
      rcases f1 with rfl | f1
      · exact HOF.out
      · exact Off.fresh f1 fun x hx => by have := HLT.out x hx; simp; omega)
    clear p1 f1
    go_wp2_with fail
    (with_reducible refine (HP.out _ (HB.out.below (by (repeat (first | with_reducible exact Below.refl _ _ | with_reducible refine Bs ?_ | with_reducible refine Ba ?_ | with_reducible refine Bd ?_ | with_reducible refine Bn ?_ | with_reducible refine Bt B1.out ?_))))).mono ?_)
    rintro e w2 ⟨rfl, F2, bg2, mv2⟩
    have BG2 := Lib.hid bg2
    have P2 := Lib.hid (P1.out.keep F1.out mv2.1)
    have O2 := Lib.hid (F1.out.moved P1.out mv2)
    have M2 := Lib.hid (show Moved w w2 F F2 from ⟨(OnlyIn.ofBelow (F := F) B1.out).trans mv2.1 (fun x hx => .inl hx), fun x hx => by
      rcases mv2.2 x hx with h1 | h1
      · exact .inl h1
      · exact .inr (by omega)⟩)
    clear bg2 mv2
    go_wp2_with fail
    go_ret2
    exact ⟨_, _, rfl, BG2.out, P2.out, O2.out, M2.out⟩
  · have HD := Lib.hid (show doL l d (p, q) = takS l (p, q) from if_neg hd)
    rw [HD.out]
    obtain ⟨V, hV⟩ : ∃ V, takS l (p, q) = V := ⟨_, rfl⟩
    obtain ⟨E, hE⟩ : ∃ V, takE l (p, q) = V := ⟨_, rfl⟩
    have HA := Lib.hid (fun W (hW : PairsR W (.slice a n c) l) => rdrop_any a n c l p q W hW HN.out HSC.out)
    have HP := Lib.hid (fun W (hW : BagIn W P F l) => dropIn_any P F l p q W hW)
    rw [hV, hE] at HA HP
    rw [hV]
    clear hV hE HD
    go_enter Try.func16, Try.ntmps16
    go_wp2_with fail
    (with_reducible refine (HA.out _ (HV.out.below (by (repeat (first | with_reducible exact Below.refl _ _ | with_reducible refine Bs ?_ | with_reducible refine Ba ?_ | with_reducible refine Bd ?_ | with_reducible refine Bn ?_))))).mono ?_); rintro e w1 ⟨v1, rfl, p1, b1, f1⟩; have s1 : w.heap.size + 1 ≤ w1.heap.size := sz b1; have B1 := Lib.hid (Bc (B := w.heap.size) (a := w) (by (repeat (first | with_reducible exact Below.refl _ _ | with_reducible refine Bs ?_ | with_reducible refine Ba ?_ | with_reducible refine Bd ?_ | with_reducible refine Bn ?_))) b1); obtain ⟨c1_0, c1_1, c1_2⟩ := k3 (w.heap.size) (.int .i64 d) (.int .i64 p) (.int .i64 q) b1 (by and_intros <;> go_simp); obtain ⟨l1_0, n1_0, m1_0⟩ := lnm (show w.heap.size < w1.heap.size by omega); clear b1
    have P1 := Lib.hid p1
    have F1 := Lib.hid (show Off v1 F from by
      rcases f1 with rfl | f1
      · exact HOF.out
      · exact Off.fresh f1 fun x hx => by have := HLT.out x hx; simp; omega)
    clear p1 f1
    go_wp2_with fail
    (with_reducible refine (HP.out _ (HB.out.below (by (repeat (first | with_reducible exact Below.refl _ _ | with_reducible refine Bs ?_ | with_reducible refine Ba ?_ | with_reducible refine Bd ?_ | with_reducible refine Bn ?_ | with_reducible refine Bt B1.out ?_))))).mono ?_)
    rintro e w2 ⟨rfl, F2, bg2, mv2⟩
    have BG2 := Lib.hid bg2
    have P2 := Lib.hid (P1.out.keep F1.out mv2.1)
    have O2 := Lib.hid (F1.out.moved P1.out mv2)
    have M2 := Lib.hid (show Moved w w2 F F2 from ⟨(OnlyIn.ofBelow (F := F) B1.out).trans mv2.1 (fun x hx => .inl hx), fun x hx => by
      rcases mv2.2 x hx with h1 | h1
      · exact .inl h1
      · exact .inr (by omega)⟩)
    clear bg2 mv2
    go_wp2_with fail
    go_ret2
    exact ⟨_, _, rfl, BG2.out, P2.out, O2.out, M2.out⟩
end Go.Proofs.Ytjmjnkilgoelbaa

namespace Go.Proofs.Ytjmjnkilgoelbaa
open Go.RowKit

def puts (l : List (Int × Int)) : List (Int × Int) := l.foldl putS []

theorem puts_next {l : List (Int × Int)} {j : Nat} {x : Int × Int} (h : l[j]? = some x) : puts (l.take (j + 1)) = putS (puts (l.take j)) x := by
  unfold puts
  rw [List.take_add_one, h, List.foldl_append]
  rfl

theorem putE_ok {l : List (Int × Int)} {s : Int × Int} (hs : scoreB s = true) (hl : l.length < 4096) : putE l s = 0 := by
  unfold putE
  rw [hs, if_pos rfl, if_neg (by omega)]

theorem putE_no {l : List (Int × Int)} {s : Int × Int} (hs : scoreB s = false) : putE l s = 130 := by
  unfold putE
  rw [hs]
  rfl

theorem putS_ok {l : List (Int × Int)} {s : Int × Int} (hs : scoreB s = true) (hl : l.length < 4096) : putS l s = insS l s := by
  unfold putS
  rw [if_pos (putE_ok hs hl)]

theorem putS_no {l : List (Int × Int)} {s : Int × Int} (hs : scoreB s = false) : putS l s = l := by
  unfold putS
  rw [putE_no hs]
  rfl

theorem putS_len (l : List (Int × Int)) (s : Int × Int) : (putS l s).length ≤ l.length + 1 := by
  unfold putS
  split
  · rw [(insS_perm s l).length_eq, List.length_cons]; exact Nat.le_refl _
  · omega

theorem fold_puts : ∀ (l acc : List (Int × Int)), Scores acc → acc.length + l.length ≤ 4096 → Scores (l.foldl putS acc) ∧ (l.foldl putS acc).Perm (acc ++ l.filter scoreB)
  | [], acc, h, _ => ⟨h, by simp⟩
  | x :: l, acc, h, hl => by
    rw [List.length_cons] at hl
    have hle := putS_len acc x
    obtain ⟨h1, h2⟩ := fold_puts l (putS acc x) (h.put x) (by omega)
    refine ⟨h1, h2.trans ?_⟩
    cases hx : scoreB x with
    | true =>
      rw [putS_ok hx (by omega), List.filter_cons_of_pos (by rw [hx])]
      exact ((insS_perm x acc).append_right _).trans List.perm_middle.symm
    | false =>
      rw [putS_no hx, List.filter_cons_of_neg (by rw [hx]; decide)]

theorem puts_scores {l : List (Int × Int)} (hl : l.length ≤ 4096) : Scores (puts l) := (fold_puts l [] scores_nil (by simpa using hl)).1

theorem puts_perm {l : List (Int × Int)} (hl : l.length ≤ 4096) : (puts l).Perm (l.filter scoreB) := by
  have := (fold_puts l [] scores_nil (by simpa using hl)).2
  rw [List.nil_append] at this
  exact this

theorem puts_len {l : List (Int × Int)} (hl : l.length ≤ 4096) : (puts l).length ≤ l.length := by
  rw [(puts_perm hl).length_eq]
  exact List.length_filter_le _ _

theorem puts_take {l : List (Int × Int)} (j : Nat) (hl : l.length ≤ 4096) : (puts (l.take j)).length ≤ j := by
  have h := puts_len (l := l.take j) (by rw [List.length_take]; omega)
  rw [List.length_take] at h
  omega

theorem puts_mem {l : List (Int × Int)} (hl : l.length ≤ 4096) {s : Int × Int} (h : s ∈ l) (hs : scoreB s = true) : s ∈ puts l := (puts_perm hl).mem_iff.2 (List.mem_filter.2 ⟨h, hs⟩)

theorem puts_rev {l : List (Int × Int)} (hl : l.length ≤ 4096) : puts l.reverse = puts l := by
  have h1 := puts_scores (l := l.reverse) (by rw [List.length_reverse]; exact hl)
  have h2 := puts_scores hl
  refine sorted_same _ _ h1.sort h2.sort ?_ h1.all
  refine (puts_perm (by rw [List.length_reverse]; exact hl)).trans ?_
  rw [List.filter_reverse]
  exact (List.reverse_perm _).trans (puts_perm hl).symm

theorem puts_sort {l : List (Int × Int)} (hl : l.length ≤ 4096) (ha : allS l = true) : puts l = sortS l := by
  have h1 := puts_scores hl
  obtain ⟨h2, h3⟩ := sortS_ok ha
  refine sorted_same _ _ h1.sort h3 ?_ h1.all
  refine (puts_perm hl).trans ?_
  rw [List.filter_eq_self.2 (fun x hx => allS_mem ha hx)]
  exact h2.symm

/-- Put in and taken out: it leaves no trace. -/
theorem put_tak {l : List (Int × Int)} (h : Scores l) (hl : l.length < 4096) (s : Int × Int) : takE (putS l s) s = putE l s ∧ takS (putS l s) s = l := by
  cases hs : scoreB s with
  | false =>
    have e1 : takE l s = 130 := by unfold takE; rw [hs]; rfl
    rw [putS_no hs, putE_no hs]
    refine ⟨e1, ?_⟩
    unfold takS
    rw [e1]
    rfl
  | true =>
    have hm : s ∈ insS l s := (insS_perm s l).mem_iff.2 (by simp)
    have e1 : takE (insS l s) s = 0 := by unfold takE; rw [hs, if_pos rfl, if_pos hm]
    rw [putS_ok hs hl, putE_ok hs hl]
    refine ⟨e1, ?_⟩
    unfold takS
    rw [if_pos e1]
    have hp : (insS l s).Perm (s :: l) := insS_perm s l
    have h3 := (List.perm_cons_erase hm).symm.trans hp
    have hS := h.put s
    rw [putS_ok hs hl] at hS
    refine (sorted_same _ _ h.sort (hS.sort.sublist List.erase_sublist) ((List.perm_cons s).1 h3).symm h.all).symm

/-- The places of those that are less odd, and of those that are not odder. -/
theorem places {s : Int × Int} (hs : scoreB s = true) : ∀ (D : List (Int × Int)), SortedS D → allS D = true → ltC s D + eqC s D ≤ D.length ∧ ∀ i x, D[i]? = some x → (oddI x s < 0 ↔ i < ltC s D) ∧ (oddI x s ≤ 0 ↔ i < ltC s D + eqC s D)
  | [], _, _ => ⟨by simp [ltC, eqC], fun i x h => by simp at h⟩
  | y :: D, hD, ha => by
    have hy : scoreB y = true := allS_mem ha (by simp)
    have ha' : allS D = true := by unfold allS at ha ⊢; rw [List.all_cons, Bool.and_eq_true] at ha; exact ha.2
    have hD2 : ∀ z ∈ D, oddI y z ≤ 0 := by unfold SortedS at hD; exact (List.pairwise_cons.1 hD).1
    have hD' : SortedS D := by unfold SortedS at hD ⊢; exact (List.pairwise_cons.1 hD).2
    obtain ⟨h0, ih⟩ := places hs D hD' ha'
    have e1 : ltC s (y :: D) = ltC s D + if oddI y s < 0 then 1 else 0 := by unfold ltC; rw [List.countP_cons]; simp
    have e2 : eqC s (y :: D) = eqC s D + if y = s then 1 else 0 := by unfold eqC; rw [List.countP_cons]; simp
    rw [List.length_cons]
    by_cases c1 : oddI y s < 0
    · have c2 : y ≠ s := fun e => by subst e; rw [oddI_self] at c1; omega
      rw [if_pos c1] at e1
      rw [if_neg c2] at e2
      rw [e1, e2]
      refine ⟨by omega, fun i x h => ?_⟩
      cases i with
      | zero =>
        obtain rfl : y = x := by simpa using h
        constructor <;> constructor <;> intro <;> omega
      | succ i =>
        obtain ⟨i1, i2⟩ := ih i x (by simpa using h)
        rw [i1, i2]
        constructor <;> constructor <;> intro <;> omega
    · have hge : ∀ z ∈ D, 0 ≤ oddI z s := fun z hz => odd_behind hy (allS_mem ha' hz) hs (hD2 z hz) (by omega)
      have hz : ltC s D = 0 := by
        unfold ltC
        exact countP_none fun z hz => decide_eq_false (by have := hge z hz; omega)
      rw [if_neg c1, hz] at e1
      by_cases c2 : y = s
      · subst c2
        rw [if_pos rfl] at e2
        rw [e1, e2]
        refine ⟨by omega, fun i x h => ?_⟩
        cases i with
        | zero =>
          obtain rfl : y = x := by simpa using h
          rw [oddI_self]
          constructor <;> constructor <;> intro <;> omega
        | succ i =>
          have hx : D[i]? = some x := by simpa using h
          obtain ⟨i1, i2⟩ := ih i x hx
          have hxg := hge x (List.mem_of_getElem? hx)
          rw [hz] at i1 i2
          constructor
          · constructor <;> intro <;> omega
          · rw [i2]
            constructor <;> intro <;> omega
      · have c3 : 0 < oddI y s := by
          rcases Int.lt_or_eq_of_le (show 0 ≤ oddI y s by omega) with h | h
          · exact h
          · exact absurd (odd_zero hy hs h.symm) c2
        have hgt : ∀ z ∈ D, 0 < oddI z s := fun z hz => odd_over hy (allS_mem ha' hz) hs (hD2 z hz) c3
        have hz2 : eqC s D = 0 := by
          unfold eqC
          refine countP_none fun z hz => ?_
          have := hgt z hz
          by_cases he : z = s
          · subst he; rw [oddI_self] at this; omega
          · simpa using he
        rw [if_neg c2, hz2] at e2
        rw [e1, e2]
        refine ⟨by omega, fun i x h => ?_⟩
        have hx : x ∈ y :: D := List.mem_of_getElem? h
        have : 0 < oddI x s := by
          rcases List.mem_cons.1 hx with rfl | hx
          · exact c3
          · exact hgt x hx
        constructor <;> constructor <;> intro <;> omega

/-- The first and the last place of one that is there. -/
theorem ranks_tell {D : List (Int × Int)} (h : Scores D) {s : Int × Int} (hm : s ∈ D) (hs : scoreB s = true) :
    rankE s = 0 ∧ 1 ≤ rankB D s ∧ rankA D s + rankB D s ≤ D.length ∧ D[rankA D s]? = some s ∧ D[rankA D s + rankB D s - 1]? = some s := by
  obtain ⟨h0, hp⟩ := places hs D h.sort h.all
  have e0 : rankE s = 0 := by unfold rankE; rw [hs]; rfl
  have e1 : rankA D s = ltC s D := by unfold rankA; rw [hs]; rfl
  have e2 : rankB D s = eqC s D := by unfold rankB; rw [hs]; rfl
  rw [e1, e2]
  obtain ⟨i, hi⟩ := List.getElem?_of_mem hm
  have hil := (List.getElem?_eq_some_iff.1 hi).1
  obtain ⟨i1, i2⟩ := hp i s hi
  rw [oddI_self] at i1 i2
  have j1 : ¬ i < ltC s D := fun hh => by have := i1.2 hh; omega
  have j2 : i < ltC s D + eqC s D := i2.1 (Int.le_refl _)
  have same : ∀ k, ltC s D ≤ k → k < ltC s D + eqC s D → D[k]? = some s := fun k k1 k2 => by
    obtain ⟨x, hx⟩ := getElem?_ex (l := D) (k := k) (by omega)
    obtain ⟨q1, q2⟩ := hp k x hx
    have q3 : ¬ oddI x s < 0 := fun hh => by have := q1.1 hh; omega
    have q4 := q2.2 k2
    rw [hx, odd_zero (allS_mem h.all (List.mem_of_getElem? hx)) hs (by omega)]
  exact ⟨e0, by omega, h0, same _ (Nat.le_refl _) (by omega), same _ (by omega) (by omega)⟩
end Go.Proofs.Ytjmjnkilgoelbaa
