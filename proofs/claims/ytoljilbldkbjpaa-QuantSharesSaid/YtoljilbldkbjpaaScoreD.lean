/-
  Walks of score.sorted and score.Sort.
-/
import Derived.Test.YtoljilbldkbjpaaScoreC
namespace Go.Proofs.Ytoljilbldkbjpaa
open Go.RowKit

theorem allS_cut {l : List (Int × Int)} (h : allS l = true) (k : Nat) : allS (l.take k) = true ∧ allS (l.drop k) = true := by
  unfold allS at *
  rw [List.all_eq_true] at *
  exact ⟨fun x hx => h x (List.mem_of_mem_take hx), List.all_eq_true.2 fun x hx => h x (List.mem_of_mem_drop hx)⟩

theorem halfS_len {l : List (Int × Int)} (h : allS l = true) : (halfS l).length = l.length := (halfS_ok _ l (Nat.le_refl _) h).1.length_eq
theorem halfS_all {l : List (Int × Int)} (h : allS l = true) : allS (halfS l) = true := allS_perm h (halfS_ok _ l (Nat.le_refl _) h).1.symm

theorem own0S (w : World) : (w.alloc (.cells #[] 44)).ownsRow w.heap.size 44 2 (.slice (some ⟨w.heap.size, 0, none⟩) 0 0) 0 [] := World.ownsRow_made w #[] 0 (Nat.le_refl _) (Nat.zero_le _) (by simp)

set_option maxRecDepth 100000 in
set_option maxHeartbeats 8000000 in
theorem ssorted_any : ∀ (m : Nat) (v : Value) (l : List (Int × Int)) (w : World), l.length ≤ m → PairsR w v l → l.length ≤ 10000 → allS l = true →
    Calls Try.prog 81 #[v, .func (.func 82) #[] #[]] w fun e w' => ∃ v', e = .returned v' ∧ PairsR w' v' (halfS l) ∧ Below w.heap.size w w'
  | m, v, l, w, hm, h, hl, hs => by
    by_cases h2 : l.length < 2
    · have HE := Lib.hid (show halfS l = l by unfold halfS; rw [dif_pos h2])
      obtain ⟨xa, xc, rfl⟩ := h.shape
      have HX := Lib.hid h
      obtain ⟨n, hn⟩ : ∃ n, l.length = n := ⟨_, rfl⟩
      rw [hn] at HX h2 ⊢
      have HN := Lib.hid hn
      have hn2 : (n : Int) < 2 := by omega
      clear hs h hm hl hn
      go_enter Try.func81, Try.ntmps81
      go_wp2_with (at_builtin; go_must (refine appPairs rfl _ _ 42 rfl Try.underlying42 eiScore w.heap.size (by rfl) (own0S w) (by rfl) (HX.out.below (by (repeat (first | with_reducible exact Below.refl _ _ | ((with_reducible refine Below.setCell ?_ ?_ _); rotate_left; (focus (first | omega | (simp; done) | (simp; omega)))) | ((with_reducible refine Below.alloc ?_ ?_ _); rotate_left; (focus (first | omega | (simp; done) | (simp; omega)))) | (with_reducible refine Below.drew ?_) | (with_reducible refine below_drewN ?_ _))))) (by have := HN.out; simp; omega) (by simp) ?_))
      intro v5 w5 hown5 hb5 _
      have OWN5 := Lib.hid hown5
      have B5 := Lib.hid hb5
      clear hown5 hb5
      go_wp2_with fail
      go_ret
      refine ⟨_, rfl, ?_, below_tr (by (repeat (first | with_reducible exact Below.refl _ _ | ((with_reducible refine Below.setCell ?_ ?_ _); rotate_left; (focus (first | omega | (simp; done) | (simp; omega)))) | ((with_reducible refine Below.alloc ?_ ?_ _); rotate_left; (focus (first | omega | (simp; done) | (simp; omega)))) | (with_reducible refine Below.drew ?_) | (with_reducible refine below_drewN ?_ _)))) B5.out⟩
      rw [HE.out]
      have h := OWN5.out
      exact own_pairs h (by simp) (by have := HN.out; omega)
    · cases m with
      | zero => omega
      | succ m =>
        obtain ⟨half, hh⟩ : ∃ k, l.length / 2 = k := ⟨_, rfl⟩
        have HE := Lib.hid (show halfS l = mergeS (halfS (l.take half)) (halfS (l.drop half)) by
          rw [halfS, dif_neg h2, hh])
        obtain ⟨s1, s2⟩ := allS_cut hs half
        have HA1 := Lib.hid (halfS_all s1)
        have HA2 := Lib.hid (halfS_all s2)
        have HL := Lib.hid (show (halfS (l.take half)).length + (halfS (l.drop half)).length ≤ 100000 by rw [halfS_len s1, halfS_len s2, List.length_take, List.length_drop]; omega)
        have IH1 := Lib.hid (fun v' W (hW : PairsR W v' (l.take half)) => ssorted_any m v' (l.take half) W (by rw [List.length_take]; omega) hW (by rw [List.length_take]; omega) s1)
        have IH2 := Lib.hid (fun v' W (hW : PairsR W v' (l.drop half)) => ssorted_any m v' (l.drop half) W (by rw [List.length_drop]; omega) hW (by rw [List.length_drop]; omega) s2)
        have HMG := Lib.hid (fun va vb W (hA : PairsR W va (halfS (l.take half))) (hB : PairsR W vb (halfS (l.drop half))) => smerge_any va vb _ _ W hA hB HL.out HA1.out HA2.out)
        obtain ⟨xa, xc, rfl⟩ := h.shape
        obtain ⟨b, o, rfl⟩ := h.addr (by omega)
        have hcap : l.length ≤ xc := by obtain ⟨_, _, e, h1, _⟩ := h; injection e with _ _ e3; subst e3; exact h1
        have hcap2 : xc ≤ 9223372036854775807 := by obtain ⟨_, _, e, _, h1, _⟩ := h; injection e with _ _ e3; subst e3; exact h1
        have HX1 := Lib.hid (show PairsR w (.slice (some ⟨b, o, none⟩) half xc) (l.take half) from by
          have := h.cutAt (i := 0) (m := half) (by omega) (o' := o) (by omega) xc (by omega) hcap2
          simpa using this)
        have HX2 := Lib.hid (show PairsR w (.slice (some ⟨b, o + half * 2, none⟩) (l.length - half) (xc - half)) (l.drop half) from by
          have := h.cutAt (i := half) (m := l.length - half) (by omega) (o' := o + half * 2) rfl (xc - half) (by omega) (by omega)
          rw [List.take_of_length_le (by rw [List.length_drop]; exact Nat.le_refl _)] at this
          exact this)
        generalize halfS (l.take half) = L1 at *
        generalize halfS (l.drop half) = L2 at *
        generalize halfS l = L3 at *
        clear hs s1 s2 h hm HA1 HA2 HL
        generalize l.length = n at *
        have hn2 : (2 : Int) ≤ n := by omega
        have q1 : Int.tdiv (n : Int) 2 = (half : Int) := by rw [← hh]; rfl
        have q2 : (0 : Int) ≤ half := by omega
        have q3 : (half : Int) ≤ n := by omega
        have q4 : (half : Int) ≤ xc := by omega
        have q5 : ¬ xc = half := by omega
        have q6 : ¬ xc = 0 := by omega
        clear hh h2 hl
        go_enter Try.func81, Try.ntmps81
        go_wp2_with fail
        have P0 := Lib.hid True.intro
        go_region_held3 (fun w' => True) (first | (go_simp; done) | (go_keep; done)) (first | (first | (go_at_call 81; clear P0; have P1 := Lib.hid True.intro; (with_reducible refine (IH1.out _ _ (HX1.out.below (by (repeat (first | with_reducible exact Below.refl _ _ | ((with_reducible refine Below.setCell ?_ ?_ _); rotate_left; (focus (first | omega | (simp; done) | (simp; omega)))) | ((with_reducible refine Below.alloc ?_ ?_ _); rotate_left; (focus (first | omega | (simp; done) | (simp; omega)))) | (with_reducible refine Below.drew ?_) | (with_reducible refine below_drewN ?_ _)))))).mono ?_); rintro e w4 ⟨v4, rfl, p4, b4⟩; have B4 := Lib.hid (show Below w.heap.size w w4 from below_tr (by (repeat (first | with_reducible exact Below.refl _ _ | ((with_reducible refine Below.setCell ?_ ?_ _); rotate_left; (focus (first | omega | (simp; done) | (simp; omega)))) | ((with_reducible refine Below.alloc ?_ ?_ _); rotate_left; (focus (first | omega | (simp; done) | (simp; omega)))) | (with_reducible refine Below.drew ?_) | (with_reducible refine below_drewN ?_ _)))) (b4.mono (by first | omega | (simp; done) | (simp; omega)))); have P4 := Lib.hid p4; obtain ⟨a4, c4, rfl⟩ := p4.shape; clear b4 p4) | (go_at_call 81; clear P1; (with_reducible refine (IH2.out _ _ (HX2.out.below (by (repeat (first | with_reducible exact Below.refl _ _ | ((with_reducible refine Below.setCell ?_ ?_ _); rotate_left; (focus (first | omega | (simp; done) | (simp; omega)))) | ((with_reducible refine Below.alloc ?_ ?_ _); rotate_left; (focus (first | omega | (simp; done) | (simp; omega)))) | (with_reducible refine Below.drew ?_) | (with_reducible refine below_drewN ?_ _) | ((with_reducible refine Below.trans ?_ (Below.mono B4.out ?_)); rotate_left; (focus (first | omega | (simp; done) | (simp; omega))))))))).mono ?_); rintro e w5 ⟨v5, rfl, p5, b5⟩; have s5 := B4.out.size; have B5 := Lib.hid (show Below w.heap.size w w5 from below_tr (by (repeat (first | with_reducible exact Below.refl _ _ | ((with_reducible refine Below.setCell ?_ ?_ _); rotate_left; (focus (first | omega | (simp; done) | (simp; omega)))) | ((with_reducible refine Below.alloc ?_ ?_ _); rotate_left; (focus (first | omega | (simp; done) | (simp; omega)))) | (with_reducible refine Below.drew ?_) | (with_reducible refine below_drewN ?_ _) | ((with_reducible refine Below.trans ?_ (Below.mono B4.out ?_)); rotate_left; (focus (first | omega | (simp; done) | (simp; omega))))))) (b5.mono (by first | omega | (simp; done) | (simp; omega)))); have P5 := Lib.hid p5; have P4 := Lib.hid ((P4.out.below (by (repeat (first | with_reducible exact Below.refl _ _ | ((with_reducible refine Below.setCell ?_ ?_ _); rotate_left; (focus (first | omega | (simp; done) | (simp; omega)))) | ((with_reducible refine Below.alloc ?_ ?_ _); rotate_left; (focus (first | omega | (simp; done) | (simp; omega)))) | (with_reducible refine Below.drew ?_) | (with_reducible refine below_drewN ?_ _))))).below b5); obtain ⟨a5, c5, rfl⟩ := p5.shape; clear b5 p5) | (go_at_call 99; (with_reducible refine (HMG.out _ _ _ (P4.out.below (by (repeat (first | with_reducible exact Below.refl _ _ | ((with_reducible refine Below.setCell ?_ ?_ _); rotate_left; (focus (first | omega | (simp; done) | (simp; omega)))) | ((with_reducible refine Below.alloc ?_ ?_ _); rotate_left; (focus (first | omega | (simp; done) | (simp; omega)))) | (with_reducible refine Below.drew ?_) | (with_reducible refine below_drewN ?_ _))))) (P5.out.below (by (repeat (first | with_reducible exact Below.refl _ _ | ((with_reducible refine Below.setCell ?_ ?_ _); rotate_left; (focus (first | omega | (simp; done) | (simp; omega)))) | ((with_reducible refine Below.alloc ?_ ?_ _); rotate_left; (focus (first | omega | (simp; done) | (simp; omega)))) | (with_reducible refine Below.drew ?_) | (with_reducible refine below_drewN ?_ _)))))).mono ?_); rintro e w6 ⟨v6, rfl, p6, b6⟩; have s6 := B5.out.size; have B6 := Lib.hid (show Below w.heap.size w w6 from below_tr (by (repeat (first | with_reducible exact Below.refl _ _ | ((with_reducible refine Below.setCell ?_ ?_ _); rotate_left; (focus (first | omega | (simp; done) | (simp; omega)))) | ((with_reducible refine Below.alloc ?_ ?_ _); rotate_left; (focus (first | omega | (simp; done) | (simp; omega)))) | (with_reducible refine Below.drew ?_) | (with_reducible refine below_drewN ?_ _) | ((with_reducible refine Below.trans ?_ (Below.mono B5.out ?_)); rotate_left; (focus (first | omega | (simp; done) | (simp; omega))))))) (b6.mono (by first | omega | (simp; done) | (simp; omega)))); have P6 := Lib.hid p6; clear b6 p6)))
        go_wp2_with fail
        go_ret
        exact ⟨_, rfl, by rw [HE.out]; exact P6.out, B6.out⟩
end Go.Proofs.Ytoljilbldkbjpaa
