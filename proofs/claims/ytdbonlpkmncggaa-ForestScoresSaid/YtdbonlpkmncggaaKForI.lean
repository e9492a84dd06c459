/-
  ForI: Scores of forests: plain bounds; walks of score.Of, copseref13.Of, forest.asked.
-/
import Derived.Test.YtdbonlpkmncggaaKForG
import Derived.Test.YtdbonlpkmncggaaJ0b
import Derived.Test.YtdbonlpkmncggaaJ1a
namespace Go.Proofs.Ytdbonlpkmncggaa
open Go.RowKit

set_option maxRecDepth 100000 in
theorem norm64 : ∀ k < 65, (loN k + hiN k) / 2 ≤ 10737418240 := by decide +kernel

theorem normI_small {n : Int} (h : n ≤ 64) : normI n ≤ 10737418240 := by
  have : heldN n < 65 := by unfold heldN clampI; repeat' split <;> omega
  exact norm64 _ this

theorem lenV_small {t : TreeP} {x : List Int} (h : treeB t = true) : 0 ≤ lenV t x ∧ lenV t x ≤ 17179869184 := by
  refine ⟨(lenV_bd h).1, ?_⟩
  obtain ⟨_, _, h0, s0, q, h1, h2⟩ := treeB_true.1 h
  have h6 : h0 ≤ 6 := Nat.le_trans h2 (logI_le h1)
  obtain ⟨j, n, g1, g2, g3, g4, g5⟩ := q.wayLeaf x
  obtain ⟨e1, e2⟩ := q.way x 6 h6
  obtain ⟨e', h', s', q', _, _, hs'⟩ := q.parts j g2 g3
  obtain ⟨n', hn', hsz⟩ := q'.at_
  rw [g4] at hn'
  injection hn' with hn'
  subst hn'
  have hnm := normI_small (n := n.size) (by omega)
  have e3 : wayL t x = wayT t x h0 0 := e1
  unfold lenV
  rw [e3, g1]
  simp only []
  rw [g4]
  show (((wayT t x h0 0).length - 1 : Nat) : Int) * 1073741824 + normI n.size ≤ _
  omega

theorem sumV_small {l : List TreeP} {x : List Int} (h : allT l = true) (hl : l.length ≤ 16) : 0 ≤ sumV l x ∧ sumV l x ≤ 274877906944 := by
  have := sumI_bd (l := l.map fun t => lenV t x) (b := 17179869184) (by
    intro y hy
    rw [List.mem_map] at hy
    obtain ⟨t, ht, rfl⟩ := hy
    obtain ⟨i, hi⟩ := List.getElem?_of_mem ht
    exact lenV_small (allT_at h hi).1)
  rw [List.length_map] at this
  unfold sumV
  omega

theorem tdiv_bd {p g : Int} (h1 : 0 ≤ p) (hg : 1 ≤ g) : 0 ≤ p.tdiv g ∧ p.tdiv g ≤ p := by
  rw [Int.tdiv_eq_ediv_of_nonneg h1]
  have := Int.ediv_nonneg h1 (show 0 ≤ g by omega)
  have := Int.ediv_le_self g h1
  omega

noncomputable def scP (l : List (TreeP × Int)) (x : List Int) : Int := if askE l x = 0 then (sumV (l.map (·.1)) x).tdiv (gcdZ (sumV (l.map (·.1)) x) l.length) else 0
noncomputable def scQ (l : List (TreeP × Int)) (x : List Int) : Int := if askE l x = 0 then (l.length : Int).tdiv (gcdZ (sumV (l.map (·.1)) x) l.length) else 0

theorem askE_ok {l : List (TreeP × Int)} {x : List Int} (h : askE l x = 0) : isF l = true ∧ 1 ≤ l.length ∧ vecB x (dim0 (l.map (·.1))) = true := by
  unfold askE at h
  split at h
  · omega
  · split at h
    · omega
    · split at h
      · omega
      · rename_i h1 h2 h3
        exact ⟨by simpa using h1, by omega, by simpa using h3⟩

set_option maxRecDepth 100000 in
set_option maxHeartbeats 4000000 in
theorem score_of (s : Int) (n : Nat) (w : World) (h1 : 0 ≤ s) (h2 : s ≤ 274877906944) (h3 : 1 ≤ n) (h4 : n ≤ 16) :
    Calls Try.prog 57 #[.int .i64 s, .int .i64 (n : Int)] w fun e w' => e = .returned (.tuple #[.agg #[.int .i64 (s.tdiv (gcdZ s n)), .int .i64 ((n : Int).tdiv (gcdZ s n))], .int .i64 0]) ∧ Below w.heap.size w w' := by
  have hg : 1 ≤ gcdZ s n := by
    unfold gcdZ
    have := Nat.gcd_pos_of_pos_right s.natAbs (n := (n : Int).natAbs) (by omega)
    omega
  have hgq : gcdZ s n ≤ 16 := by
    unfold gcdZ
    have := Nat.gcd_le_right s.natAbs (n := (n : Int).natAbs) (by omega)
    omega
  have q1 := tdiv_bd (p := s) (g := gcdZ s n) h1 hg
  have q2 := tdiv_bd (p := (n : Int)) (g := gcdZ s n) (by omega) hg
  have HG := Lib.hid (fun W => gcd_any s n W (by unfold Ok64; omega) (by unfold Ok64; omega))
  rw [fitV_yes (by unfold Ok64; omega), fitE_yes (by unfold Ok64; omega)] at HG
  generalize gcdZ s n = G at *
  have g0 : ¬ G = 0 := by omega
  have w1 : wrap64 (s.tdiv G) = s.tdiv G := IntWalk.wrap64_in _ (by omega)
  have w2 : wrap64 ((n : Int).tdiv G) = (n : Int).tdiv G := IntWalk.wrap64_in _ (by omega)
  have h5 : (1 : Int) ≤ n := by omega
  have h6 : (n : Int) ≤ 16 := by omega
  have hdn : (n : Int).tdiv G = (n : Int) / G := Int.tdiv_eq_ediv_of_nonneg (by omega)
  have HU := Lib.hid (show IntKind.i64.wrap (s.tdiv G) = s.tdiv G ∧ IntKind.i64.wrap ((n : Int) / G) = (n : Int) / G by rw [← hdn, IntKind.wrap_i64, IntKind.wrap_i64]; omega)
  clear q1 q2 hg hgq hdn
  go_enter Try.func57, Try.ntmps57
  go_wp2_with fail
  (with_reducible refine (HG.out _).mono ?_)
  rintro e w4 ⟨rfl, d1, rfl⟩
  go_upto_region 4 with fail
  refine wp_region_held_drew (S := fun w' => True) (by kernel_rfl) ?_ (fun hHeld => ?_); (focus (first | with_reducible exact True.intro | ((try dsimp only); and_intros <;> first | (go_simp; done) | (go_keep; done)))); (refine lexTk 0 (v := ?_) rfl hHeld ?_ (by kernel_rfl) (fun _ _ _ h => h) ?_ ?_; rotate_left 2; (focus rfl); (focus (intro w hSw; (try dsimp only at hSw); first | (go_simp; done) | (go_simp; with_reducible rfl)))); (try simp only [Act.put, List.setIfInBounds_toArray, List.set_cons_zero, List.set_cons_succ]); (refine lexTk 1 (v := ?_) rfl hHeld ?_ (by kernel_rfl) (fun _ _ _ h => h) ?_ ?_; rotate_left 2; (focus rfl); (focus (intro w hSw; (try dsimp only at hSw); first | (go_simp; done) | (go_simp; with_reducible rfl)))); (try simp only [Act.put, List.setIfInBounds_toArray, List.set_cons_zero, List.set_cons_succ]); (refine lexTk 2 (v := ?_) rfl hHeld ?_ (by kernel_rfl) (fun _ _ _ h => h) ?_ ?_; rotate_left 2; (focus rfl); (focus (intro w hSw; (try dsimp only at hSw); first | (go_simp; done) | (go_simp; with_reducible rfl)))); (try simp only [Act.put, List.setIfInBounds_toArray, List.set_cons_zero, List.set_cons_succ]); (refine lexTk 3 (v := ?_) rfl hHeld ?_ (by kernel_rfl) (fun _ _ _ h => h) ?_ ?_; rotate_left 2; (focus rfl); (focus (intro w hSw; (try dsimp only at hSw); first | (go_simp; done) | (go_simp; with_reducible rfl)))); (try simp only [Act.put, List.setIfInBounds_toArray, List.set_cons_zero, List.set_cons_succ]); (refine lexTk 4 (v := ?_) rfl hHeld ?_ (by kernel_rfl) (fun _ _ _ h => h) ?_ ?_; rotate_left 2; (focus rfl); (focus (intro w hSw; (try dsimp only at hSw); first | (go_simp; done) | (go_simp; with_reducible rfl)))); (try simp only [Act.put, List.setIfInBounds_toArray, List.set_cons_zero, List.set_cons_succ]); (refine lexTk 5 (v := ?_) rfl hHeld ?_ (by kernel_rfl) (fun _ _ _ h => h) ?_ ?_; rotate_left 2; (focus rfl); (focus (intro w hSw; (try dsimp only at hSw); first | (go_simp; done) | (go_simp; with_reducible rfl)))); (try simp only [Act.put, List.setIfInBounds_toArray, List.set_cons_zero, List.set_cons_succ]); (refine lexTk 6 (v := ?_) rfl hHeld ?_ (by kernel_rfl) (fun _ _ _ h => h) ?_ ?_; rotate_left 2; (focus rfl); (focus (intro w hSw; (try dsimp only at hSw); first | (go_simp; done) | (go_simp; with_reducible rfl)))); (try simp only [Act.put, List.setIfInBounds_toArray, List.set_cons_zero, List.set_cons_succ]); refine lexHv 7 rfl ?_ (by kernel_rfl); (intro K hK); (go_simp); refine hK.out _ _ ?_ ?_; (focus (first | with_reducible exact True.intro | ((try dsimp only); and_intros <;> first | (go_simp; done) | (go_keep; done)))); (clear hHeld hK K); (intro hHeld); (try simp only [Act.put]); (refine lexTk 8 (v := ?_) rfl hHeld ?_ (by kernel_rfl) (fun _ _ _ h => h) ?_ ?_; rotate_left 2; (focus rfl); (focus (intro w hSw; (try dsimp only at hSw); first | (go_simp; done) | (go_simp; with_reducible rfl)))); (try simp only [Act.put, List.setIfInBounds_toArray, List.set_cons_zero, List.set_cons_succ]); refine wpAnyH_done (by kernel_rfl) ?_ _
  all_goals
    go_wp2_with fail
    exact bodyPost_ret (v := .tuple #[.agg #[.int .i64 (s.tdiv G), .int .i64 ((n : Int).tdiv G)], .int .i64 0]) (by simp [results, Try.results57, go_sem, *]; exact HU.out) rfl ⟨rfl, by (repeat (first | with_reducible exact Below.refl _ _ | with_reducible refine Bs ?_ | with_reducible refine Ba ?_ | with_reducible refine Bd ?_ | with_reducible refine Bn ?_))⟩

set_option maxRecDepth 100000 in
set_option maxHeartbeats 4000000 in
theorem r13_of (s : Int) (n : Nat) (w : World) (h1 : 0 ≤ s) (h2 : s ≤ 274877906944) (h3 : 1 ≤ n) (h4 : n ≤ 16) :
    Calls Try.prog 60 #[.int .i64 s, .int .i64 (n : Int)] w fun e w' => e = .returned (.tuple #[.agg #[.int .i64 (s.tdiv (gcdZ s n)), .int .i64 ((n : Int).tdiv (gcdZ s n))], .int .i64 0]) ∧ Below w.heap.size w w' := by
  have hg : 1 ≤ gcdZ s n := by
    unfold gcdZ
    have := Nat.gcd_pos_of_pos_right s.natAbs (n := (n : Int).natAbs) (by omega)
    omega
  have hgq : gcdZ s n ≤ 16 := by
    unfold gcdZ
    have := Nat.gcd_le_right s.natAbs (n := (n : Int).natAbs) (by omega)
    omega
  have q1 := tdiv_bd (p := s) (g := gcdZ s n) h1 hg
  have q2 := tdiv_bd (p := (n : Int)) (g := gcdZ s n) (by omega) hg
  have HG := Lib.hid (fun W => rgcd_any s n W (by unfold Ok64; omega) (by unfold Ok64; omega))
  rw [fitV_yes (by unfold Ok64; omega), fitE_yes (by unfold Ok64; omega)] at HG
  generalize gcdZ s n = G at *
  have g0 : ¬ G = 0 := by omega
  have w1 : wrap64 (s.tdiv G) = s.tdiv G := IntWalk.wrap64_in _ (by omega)
  have w2 : wrap64 ((n : Int).tdiv G) = (n : Int).tdiv G := IntWalk.wrap64_in _ (by omega)
  have h5 : (1 : Int) ≤ n := by omega
  have h6 : (n : Int) ≤ 16 := by omega
  have hdn : (n : Int).tdiv G = (n : Int) / G := Int.tdiv_eq_ediv_of_nonneg (by omega)
  have HU := Lib.hid (show IntKind.i64.wrap (s.tdiv G) = s.tdiv G ∧ IntKind.i64.wrap ((n : Int) / G) = (n : Int) / G by rw [← hdn, IntKind.wrap_i64, IntKind.wrap_i64]; omega)
  clear q1 q2 hg hgq hdn
  go_enter Try.func60, Try.ntmps60
  go_wp2_with fail
  (with_reducible refine (HG.out _).mono ?_)
  rintro e w4 ⟨rfl, b4⟩
  have y0 : w4.cell? ⟨w.heap.size, 0, none⟩ = some (.int .i64 0) := (b4.cell (p := ⟨w.heap.size, 0, none⟩) (by simp)).trans (by go_simp)
  have y1 : w4.cell? ⟨w.heap.size, 1, none⟩ = some (.int .i64 0) := (b4.cell (p := ⟨w.heap.size, 1, none⟩) (by simp)).trans (by go_simp)
  have f0 : w4.frozen? ⟨w.heap.size, 0, none⟩ = false := (b4.frozen (p := ⟨w.heap.size, 0, none⟩) (by simp)).trans (by go_simp)
  have f1 : w4.frozen? ⟨w.heap.size, 1, none⟩ = false := (b4.frozen (p := ⟨w.heap.size, 1, none⟩) (by simp)).trans (by go_simp)
  have B4 := Lib.hid (show Below w.heap.size w w4 from below_tr (by (repeat (first | with_reducible exact Below.refl _ _ | with_reducible refine Bs ?_ | with_reducible refine Ba ?_ | with_reducible refine Bd ?_ | with_reducible refine Bn ?_))) (b4.mono (by simp)))
  have z4 : w.heap.size < w4.heap.size := by have := b4.size; simp at this; omega
  clear b4
  go_upto_region 4 with fail
  refine wp_region_held_drew (S := fun w' => True) (by kernel_rfl) ?_ (fun hHeld => ?_); (focus (first | with_reducible exact True.intro | ((try dsimp only); and_intros <;> first | (go_simp; done) | (go_keep; done)))); (refine lexTk 0 (v := ?_) rfl hHeld ?_ (by kernel_rfl) (fun _ _ _ h => h) ?_ ?_; rotate_left 2; (focus rfl); (focus (intro w hSw; (try dsimp only at hSw); first | (go_simp; done) | (go_simp; with_reducible rfl)))); (try simp only [Act.put, List.setIfInBounds_toArray, List.set_cons_zero, List.set_cons_succ]); (refine lexTk 1 (v := ?_) rfl hHeld ?_ (by kernel_rfl) (fun _ _ _ h => h) ?_ ?_; rotate_left 2; (focus rfl); (focus (intro w hSw; (try dsimp only at hSw); first | (go_simp; done) | (go_simp; with_reducible rfl)))); (try simp only [Act.put, List.setIfInBounds_toArray, List.set_cons_zero, List.set_cons_succ]); (refine lexTk 2 (v := ?_) rfl hHeld ?_ (by kernel_rfl) (fun _ _ _ h => h) ?_ ?_; rotate_left 2; (focus rfl); (focus (intro w hSw; (try dsimp only at hSw); first | (go_simp; done) | (go_simp; with_reducible rfl)))); (try simp only [Act.put, List.setIfInBounds_toArray, List.set_cons_zero, List.set_cons_succ]); (refine lexTk 3 (v := ?_) rfl hHeld ?_ (by kernel_rfl) (fun _ _ _ h => h) ?_ ?_; rotate_left 2; (focus rfl); (focus (intro w hSw; (try dsimp only at hSw); first | (go_simp; done) | (go_simp; with_reducible rfl)))); (try simp only [Act.put, List.setIfInBounds_toArray, List.set_cons_zero, List.set_cons_succ]); (refine lexTk 4 (v := ?_) rfl hHeld ?_ (by kernel_rfl) (fun _ _ _ h => h) ?_ ?_; rotate_left 2; (focus rfl); (focus (intro w hSw; (try dsimp only at hSw); first | (go_simp; done) | (go_simp; with_reducible rfl)))); (try simp only [Act.put, List.setIfInBounds_toArray, List.set_cons_zero, List.set_cons_succ]); (refine lexTk 5 (v := ?_) rfl hHeld ?_ (by kernel_rfl) (fun _ _ _ h => h) ?_ ?_; rotate_left 2; (focus rfl); (focus (intro w hSw; (try dsimp only at hSw); first | (go_simp; done) | (go_simp; with_reducible rfl)))); (try simp only [Act.put, List.setIfInBounds_toArray, List.set_cons_zero, List.set_cons_succ]); (refine lexTk 6 (v := ?_) rfl hHeld ?_ (by kernel_rfl) (fun _ _ _ h => h) ?_ ?_; rotate_left 2; (focus rfl); (focus (intro w hSw; (try dsimp only at hSw); first | (go_simp; done) | (go_simp; with_reducible rfl)))); (try simp only [Act.put, List.setIfInBounds_toArray, List.set_cons_zero, List.set_cons_succ]); refine lexHv 7 rfl ?_ (by kernel_rfl); (intro K hK); (go_simp); refine hK.out _ _ ?_ ?_; (focus (first | with_reducible exact True.intro | ((try dsimp only); and_intros <;> first | (go_simp; done) | (go_keep; done)))); (clear hHeld hK K); (intro hHeld); (try simp only [Act.put]); (refine lexTk 8 (v := ?_) rfl hHeld ?_ (by kernel_rfl) (fun _ _ _ h => h) ?_ ?_; rotate_left 2; (focus rfl); (focus (intro w hSw; (try dsimp only at hSw); first | (go_simp; done) | (go_simp; with_reducible rfl)))); (try simp only [Act.put, List.setIfInBounds_toArray, List.set_cons_zero, List.set_cons_succ]); refine wpAnyH_done (by kernel_rfl) ?_ _
  all_goals
    go_wp2_with fail
    exact bodyPost_ret (v := .tuple #[.agg #[.int .i64 (s.tdiv G), .int .i64 ((n : Int).tdiv G)], .int .i64 0]) (by simp [results, Try.results60, go_sem, *]; exact HU.out) rfl ⟨rfl, by (repeat (first | with_reducible exact Below.refl _ _ | with_reducible refine Bs ?_ | with_reducible refine Ba ?_ | with_reducible refine Bd ?_ | with_reducible refine Bn ?_ | with_reducible refine Bt B4.out ?_))⟩

set_option maxHeartbeats 1000000 in
theorem fasked_any (v vx : Value) (l : List (TreeP × Int)) (x : List Int) (w : World) (h : GrownsR w v l) (hx : Ints .i64 w vx x) :
    Calls Try.prog 55 #[v, vx] w fun e w' => e = .returned (.int .i64 (askE l x)) ∧ Below w.heap.size w w' := by
  have HG := Lib.hid h
  have HX := Lib.hid hx
  unfold askE
  cases hF : isF l with
  | false =>
    have HF := Lib.hid (fun W (hW : GrownsR W v l) => hF ▸ fis_any v l W hW)
    obtain ⟨ad, cc, rfl, _⟩ := h
    generalize l.length = n at *
    clear hF hx
    go_enter Try.func55, Try.ntmps55
    go_wp2_with fail
    (with_reducible refine (HF.out _ (HG.out.below (by (repeat (first | with_reducible exact Below.refl _ _ | with_reducible refine Bs ?_ | with_reducible refine Ba ?_ | with_reducible refine Bd ?_ | with_reducible refine Bn ?_))))).mono ?_)
    rintro e w1 ⟨rfl, b1⟩
    have B1 := Lib.hid b1
    clear b1
    go_wp2_with fail
    go_ret
    exact ⟨rfl, B1.out⟩
  | true =>
    have HF := Lib.hid (fun W (hW : GrownsR W v l) => hF ▸ fis_any v l W hW)
    rw [if_neg (by decide)]
    by_cases h0 : l.length = 0
    · rw [if_pos h0]
      obtain ⟨ad, cc, rfl, _⟩ := h
      rw [h0] at HG HF ⊢
      clear hF hx
      go_enter Try.func55, Try.ntmps55
      go_wp2_with fail
      (with_reducible refine (HF.out _ (HG.out.below (by (repeat (first | with_reducible exact Below.refl _ _ | with_reducible refine Bs ?_ | with_reducible refine Ba ?_ | with_reducible refine Bd ?_ | with_reducible refine Bn ?_))))).mono ?_)
      rintro e w1 ⟨rfl, b1⟩
      have B1 := Lib.hid b1
      clear b1
      go_wp2_with fail
      go_ret
      exact ⟨rfl, B1.out⟩
    · rw [if_neg h0]
      have HVI := Lib.hid (fun W (hW : Ints .i64 W vx x) => vis_any vx x (dim0 (l.map (·.1))) W hW)
      obtain ⟨ad, cc, rfl, _⟩ := h
      obtain ⟨p, hp⟩ := getElem?_ex (l := l) (k := 0) (by omega)
      obtain ⟨b, o, na, nc, rfl, hb, c0, _⟩ := growns_at HG.out hp
      have hd0 : dim0 (l.map (·.1)) = p.1.dim := by unfold dim0; rw [List.getElem?_map, hp]; rfl
      rw [Nat.zero_mul, Nat.add_zero, ← hd0] at c0
      generalize dim0 (l.map (·.1)) = D at *
      have i3 : (0 : Int) < (l.length : Int) := by omega
      have i4 : 0 < l.length := by omega
      have j0 : ((l.length : Int) == 0) = false := by rw [beq_eq_false_iff_ne]; omega
      generalize l.length = n at *
      clear hF hx h0 hp hd0
      obtain ⟨VB, hVB⟩ : ∃ VB, vecB x D = VB := ⟨_, rfl⟩
      rw [hVB] at HVI ⊢
      clear hVB
      cases VB
      all_goals
       go_enter Try.func55, Try.ntmps55
       go_wp2_with fail
       (with_reducible refine (HF.out _ (HG.out.below (by (repeat (first | with_reducible exact Below.refl _ _ | with_reducible refine Bs ?_ | with_reducible refine Ba ?_ | with_reducible refine Bd ?_ | with_reducible refine Bn ?_))))).mono ?_)
       rintro e w1 ⟨rfl, b1⟩
       have B1 := Lib.hid b1
       have k0 := (b1.cell (p := ⟨b, o, none⟩) hb).trans c0
       clear b1
       go_wp2_with fail
       refine (HVI.out _ (HX.out.below B1.out)).mono ?_
       rintro e w2 ⟨rfl, rfl⟩
       go_wp2_with fail
       go_ret
       exact ⟨rfl, B1.out⟩

end Go.Proofs.Ytdbonlpkmncggaa
