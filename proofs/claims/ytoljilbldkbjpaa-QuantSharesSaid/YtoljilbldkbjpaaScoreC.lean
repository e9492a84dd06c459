/-
  Walks of score.merge and score.sorted.
-/
import Derived.Test.YtoljilbldkbjpaaScoreB
import Derived.Test.YtoljilbldkbjpaaApp1
import Derived.Test.YtoljilbldkbjpaaTail
namespace Go.Proofs.Ytoljilbldkbjpaa
open Go.RowKit

theorem eiScore : EI Try.prog 44 (.agg #[.int .i64 0, .int .i64 0]) 2 16 := .of (by kernel_rfl) rfl (by decide) (by decide)

def sliceN : Value → Nat
  | .slice _ n _ => n
  | _ => 0

theorem mergeS_nil (a : List (Int × Int)) : mergeS a [] = a := by
  cases a with
  | nil => unfold mergeS; rfl
  | cons x a => unfold mergeS; rfl

theorem allS_cons {x : Int × Int} {l : List (Int × Int)} (h : allS (x :: l) = true) : scoreB x = true ∧ allS l = true := by
  unfold allS at *
  simpa using h

theorem score_ok {p q : Int} (h : scoreB (p, q) = true) : Ok64 p ∧ Ok64 q := by
  have := scoreB_is.1 h
  unfold Ok64
  omega

theorem PairsR.tail {w : World} {b o n c : Nat} {x : Int × Int} {A : List (Int × Int)} (h : PairsR w (.slice (some ⟨b, o, none⟩) n c) (x :: A)) :
    PairsR w (.slice (if c = 1 then some ⟨b, o, none⟩ else some ⟨b, o + 2, none⟩) A.length (c - 1)) A := by
  have h0 := h
  obtain ⟨_, _, e, h1, h2, _⟩ := h0
  injection e with e1 e2 e3
  subst e3
  rw [List.length_cons] at h1
  by_cases hc : c = 1
  · rw [if_pos hc]
    have : A = [] := List.eq_nil_of_length_eq_zero (by omega)
    subst this
    exact pairs_nil _ _ _ (by omega)
  · rw [if_neg hc]
    have := h.cutAt (i := 1) (m := A.length) (by simp; omega) (o' := o + 2) (by omega) (c - 1) (by omega) (by omega)
    simpa using this

set_option maxRecDepth 100000 in
set_option maxHeartbeats 8000000 in
theorem smerge_any (va vb : Value) (a b : List (Int × Int)) (w : World) (ha : PairsR w va a) (hb : PairsR w vb b) (hl : a.length + b.length ≤ 100000) (sa : allS a = true) (sb : allS b = true) :
    Calls Try.prog 99 #[va, vb, .func (.func 82) #[] #[]] w fun e w' => ∃ v', e = .returned v' ∧ PairsR w' v' (mergeS a b) ∧ Below w.heap.size w w' := by
  obtain ⟨xa, xc, rfl⟩ := ha.shape
  obtain ⟨ya, yc, rfl⟩ := hb.shape
  have HPA := Lib.hid ha
  have HPB := Lib.hid hb
  obtain ⟨N, hN⟩ : ∃ N, a.length + b.length = N := ⟨_, rfl⟩
  have HN := Lib.hid hN
  have hNb : N ≤ 100000 := by omega
  have HSA := Lib.hid sa
  have HSB := Lib.hid sb
  obtain ⟨_, _, _, _, hb1, hb2, _⟩ := ha
  obtain ⟨_, _, _, _, hb3, hb4, _⟩ := hb
  obtain ⟨m1, hm1⟩ : ∃ m, a.length = m := ⟨_, rfl⟩
  obtain ⟨m2, hm2⟩ : ∃ m, b.length = m := ⟨_, rfl⟩
  have hmm : (m1 : Int) + m2 = (m1 + m2 : Nat) := by omega
  clear sa sb
  have HM1 := Lib.hid hm1
  have HM2 := Lib.hid hm2
  rw [hm1, hm2] at hN
  rw [hm1] at HPA ⊢
  rw [hm2] at HPB ⊢
  clear hm1 hm2 hb1 hb2 hb3 hb4
  go_enter Try.func99, Try.ntmps99
  go_wp2_with (at_make; go_must (refine mkown rfl _ _ 42 rfl Try.underlying42 eiScore w.heap.size N (by rfl) (by rfl) ?_ (by omega) (Nat.le_refl _) ?_))
  · rfl
  intro w1 hown hb1 _
  have HOWN := Lib.hid hown
  have B1 := Lib.hid hb1
  clear hown hb1
  go_wp2_with fail
  go_loopw [0, 1, 7] (fun x y out wr => ∃ (xa : Option Addr) (xc : Nat) (A : List (Int × Int)) (ya : Option Addr) (yc : Nat) (B D : List (Int × Int)), x = .slice xa A.length xc ∧ y = .slice ya B.length yc ∧ PairsR w (.slice xa A.length xc) A ∧ PairsR w (.slice ya B.length yc) B ∧ wr.ownsRow w.heap.size 44 2 out D.length (D.flatMap pairF) ∧ D ++ mergeS A B = mergeS a b ∧ D.length + A.length + B.length = N ∧ allS A = true ∧ allS B = true ∧ Below w.heap.size w wr) (fun x y _ _ => sliceN x + sliceN y)
  case atStart =>
    rw [← HM1.out, ← HM2.out]
    exact ⟨xa, xc, a, ya, yc, b, [], rfl, rfl, HM1.out ▸ HPA.out, HM2.out ▸ HPB.out, HOWN.out, rfl, by simp; exact HN.out, HSA.out, HSB.out, B1.out⟩
  case round =>
    obtain ⟨xa, xc, A, ya, yc, B, D, rfl, rfl, hA, hB, hown, hmer, hlen, sA, sB, hbr⟩ := hrel
    have HOWN := Lib.hid hown
    have HBR := Lib.hid hbr
    have HMER := Lib.hid hmer
    have HA := Lib.hid hA
    have HB := Lib.hid hB
    cases A with
    | nil =>
      have HE := Lib.hid (show D ++ B = mergeS a b by rw [← HMER.out]; unfold mergeS; rfl)
      obtain ⟨nb, hnb⟩ : ∃ n, B.length = n := ⟨_, rfl⟩
      rw [hnb] at hlen HB ⊢
      have HNB := Lib.hid hnb
      simp only [List.length_nil, Nat.add_zero] at hlen HA ⊢
      have hsz := hbr.size
      clear hA hB hown hmer sA sB hbr hnb
      go_wp2_with (at_builtin; go_must (refine appPairs rfl _ _ 42 rfl Try.underlying42 eiScore w.heap.size (by rfl) HOWN.out (by rfl) (HA.out.below HBR.out) (by simp; omega) hsz ?_))
      intro v5 w5 hown5 hb5 _
      have OWN5 := Lib.hid hown5
      have B5 := Lib.hid (below_tr HBR.out hb5)
      have hsz5 := B5.out.size
      clear hown5 hb5
      go_wp2_with (at_builtin; go_must (refine appPairs rfl _ _ 42 rfl Try.underlying42 eiScore w.heap.size (by rfl) OWN5.out (by rfl) (HB.out.below B5.out) (by have := HNB.out; simp; omega) hsz5 ?_))
      intro v6 w6 hown6 hb6 _
      have OWN6 := Lib.hid hown6
      have B6 := Lib.hid (below_tr B5.out hb6)
      clear hown6 hb6
      go_wp2_with fail
      go_ret
      refine ⟨_, rfl, ?_, B6.out⟩
      rw [← HE.out]
      have h := OWN6.out
      rw [← List.flatMap_append] at h
      exact own_pairs h (by simp) (by have := HNB.out; simp; omega)
    | cons x A =>
      cases B with
      | nil =>
        have HE := Lib.hid (show D ++ (x :: A) = mergeS a b by rw [← HMER.out, mergeS_nil])
        obtain ⟨na, hna⟩ : ∃ n, A.length = n := ⟨_, rfl⟩
        rw [List.length_cons, hna] at hlen HA ⊢
        have HNA := Lib.hid hna
        simp only [List.length_nil, Nat.add_zero] at hlen HB ⊢
        have hsz := hbr.size
        have ia : (0 : Int) < (na + 1 : Nat) := by omega
        clear hA hB hown hmer sA sB hbr hna
        go_wp2_with (at_builtin; go_must (refine appPairs rfl _ _ 42 rfl Try.underlying42 eiScore w.heap.size (by rfl) HOWN.out (by rfl) (HA.out.below HBR.out) (by have := HNA.out; simp; omega) hsz ?_))
        intro v5 w5 hown5 hb5 _
        have OWN5 := Lib.hid hown5
        have B5 := Lib.hid (below_tr HBR.out hb5)
        have hsz5 := B5.out.size
        clear hown5 hb5
        go_wp2_with (at_builtin; go_must (refine appPairs rfl _ _ 42 rfl Try.underlying42 eiScore w.heap.size (by rfl) OWN5.out (by rfl) (HB.out.below B5.out) (by have := HNA.out; simp; omega) hsz5 ?_))
        intro v6 w6 hown6 hb6 _
        have OWN6 := Lib.hid hown6
        have B6 := Lib.hid (below_tr B5.out hb6)
        clear hown6 hb6
        go_wp2_with fail
        go_ret
        refine ⟨_, rfl, ?_, B6.out⟩
        rw [← HE.out]
        have h := OWN6.out
        rw [← List.flatMap_cons, ← List.flatMap_append] at h
        exact own_pairs h (by simp) (by have := HNA.out; simp; omega)
      | cons y B =>
        obtain ⟨b1, o1, rfl⟩ := hA.addr (by simp)
        obtain ⟨b2, o2, rfl⟩ := hB.addr (by simp)
        obtain ⟨p, q⟩ := x
        obtain ⟨r, s⟩ := y
        obtain ⟨g1, c0, c1⟩ := hA.at (i := 0) rfl
        obtain ⟨g2, c2, c3⟩ := hB.at (i := 0) rfl
        have e0 := (hbr.cell (p := ⟨b1, o1 + 0 * 2, none⟩) g1).trans c0
        have e1 := (hbr.cell (p := ⟨b1, o1 + 0 * 2 + 1, none⟩) g1).trans c1
        have e2 := (hbr.cell (p := ⟨b2, o2 + 0 * 2, none⟩) g2).trans c2
        have e3 := (hbr.cell (p := ⟨b2, o2 + 0 * 2 + 1, none⟩) g2).trans c3
        simp only [Nat.zero_mul, Nat.add_zero] at e0 e1 e2 e3
        have hsz := hbr.size
        have k1 : b1 < wr.heap.size := by omega
        have k2 : b2 < wr.heap.size := by omega
        obtain ⟨s1, s2⟩ := allS_cons sA
        obtain ⟨s3, s4⟩ := allS_cons sB
        have HOD := Lib.hid (fun W => odder_any r s p q W (score_ok s3).1 (score_ok s3).2 (score_ok s1).1 (score_ok s1).2)
        have HS := Lib.hid (And.intro sA (And.intro sB (And.intro s2 s4)))
        obtain ⟨na, hna⟩ : ∃ n, A.length = n := ⟨_, rfl⟩
        obtain ⟨nb, hnb⟩ : ∃ n, B.length = n := ⟨_, rfl⟩
        rw [List.length_cons, hna] at hlen HA ⊢
        rw [List.length_cons, hnb] at hlen HB ⊢
        have HNA := Lib.hid hna
        have HNB := Lib.hid hnb
        have hxc : na + 1 ≤ xc := by obtain ⟨_, _, e, h1, _⟩ := HA.out; injection e with _ _ e3; subst e3; simp at h1; omega
        have hyc : nb + 1 ≤ yc := by obtain ⟨_, _, e, h1, _⟩ := HB.out; injection e with _ _ e3; subst e3; simp at h1; omega
        have ia : (0 : Int) < (na + 1 : Nat) := by omega
        have ia2 : (1 : Int) ≤ (na : Int) + 1 := by omega
        have ib2 : (1 : Int) ≤ (nb : Int) + 1 := by omega
        have ib : (0 : Int) < (nb + 1 : Nat) := by omega
        clear hA hB hown hmer sA sB hbr c0 c1 c2 c3 s1 s2 s3 s4 hna hnb
        by_cases hlt : oddI (r, s) (p, q) < 0
        · have HST := Lib.hid (show mergeS ((p, q) :: A) ((r, s) :: B) = (r, s) :: mergeS ((p, q) :: A) B by rw [mergeS, if_pos hlt])
          generalize oddI (r, s) (p, q) = R at *
          go_wp2_with fail
          refine wp_region_tail_quiet 7 (by kernel_rfl) (by kernel_rfl) ?_; simp only [List.take_succ_cons, List.take_zero, List.drop_succ_cons, List.drop_zero]; (repeat (go_big_quiet_step (fail))); refine wpQuiet_nil ?_
          go_wp2_with fail
          (with_reducible refine (HOD.out _).mono ?_)
          rintro e w4 ⟨rfl, b4⟩
          have B4 := Lib.hid (show Below wr.heap.size wr w4 from below_tr (by (repeat (first | with_reducible exact Below.refl _ _ | ((with_reducible refine Below.setCell ?_ ?_ _); rotate_left; (focus (first | omega | (simp; done) | (simp; omega)))) | ((with_reducible refine Below.alloc ?_ ?_ _); rotate_left; (focus (first | omega | (simp; done) | (simp; omega)))) | (with_reducible refine Below.drew ?_) | (with_reducible refine below_drewN ?_ _)))) (b4.mono (by first | omega | (simp; done) | (simp; omega))))
          have z0 := (B4.out.cell (p := ⟨b1, o1, none⟩) k1).trans e0
          have z1 := (B4.out.cell (p := ⟨b1, o1 + 1, none⟩) k1).trans e1
          have z2 := (B4.out.cell (p := ⟨b2, o2, none⟩) k2).trans e2
          have z3 := (B4.out.cell (p := ⟨b2, o2 + 1, none⟩) k2).trans e3
          have s4 := B4.out.size
          have OWN4 := Lib.hid (own_keep HOWN.out (fun g _ hg => B4.out.block g hg))
          have l1 : b1 < w4.heap.size := by omega
          have l2 : b2 < w4.heap.size := by omega
          clear b4 e0 e1 e2 e3
          go_wp2_with fail
          go_region_held3 (fun w' => w'.cell? ⟨b2, o2, none⟩ = some (.int .i64 r) ∧ w'.cell? ⟨b2, o2 + 1, none⟩ = some (.int .i64 s)) (first | (go_simp; done) | (go_keep; done) | (refine ⟨?_, ?_⟩ <;> first | (go_simp; done) | (go_keep; done))) (first | ((refine app1_step rfl _ _ 42 rfl Try.underlying42 eiScore w.heap.size (by rfl) OWN4.out (by rfl) rfl (by simp [Value.oneCell']) (by omega) (by omega) ?_; intro v8 w8 hown8 hb8; have OWN8 := Lib.hid hown8; have B8 := Lib.hid hb8; have f0 := (hb8.cell (p := ⟨b2, o2, none⟩) (by omega)).trans z2; have f1 := (hb8.cell (p := ⟨b2, o2 + 1, none⟩) (by omega)).trans z3; clear hown8 hb8)))
          go_wp2_with fail
          go_roundw
          case rel =>
            refine ⟨some ⟨b1, o1, none⟩, xc, (p, q) :: A, _, yc - 1, B, D ++ [(r, s)], by rw [List.length_cons, HNA.out], by rw [← HNB.out], by rw [List.length_cons, HNA.out]; exact HA.out, HB.out.tail, ?_, ?_, ?_, HS.out.1, HS.out.2.2.2, below_tr HBR.out (below_tr (B4.out.mono hsz) B8.out)⟩
            · rw [List.length_append, List.flatMap_append]
              exact OWN8.out
            · rw [← HMER.out, HST.out, List.append_assoc]
              rfl
            · have := HNA.out; have := HNB.out; simp; omega
          case measure => simp [sliceN]
        · have HST := Lib.hid (show mergeS ((p, q) :: A) ((r, s) :: B) = (p, q) :: mergeS A ((r, s) :: B) by rw [mergeS, if_neg hlt])
          generalize oddI (r, s) (p, q) = R at *
          go_wp2_with fail
          refine wp_region_tail_quiet 7 (by kernel_rfl) (by kernel_rfl) ?_; simp only [List.take_succ_cons, List.take_zero, List.drop_succ_cons, List.drop_zero]; (repeat (go_big_quiet_step (fail))); refine wpQuiet_nil ?_
          go_wp2_with fail
          (with_reducible refine (HOD.out _).mono ?_)
          rintro e w4 ⟨rfl, b4⟩
          have B4 := Lib.hid (show Below wr.heap.size wr w4 from below_tr (by (repeat (first | with_reducible exact Below.refl _ _ | ((with_reducible refine Below.setCell ?_ ?_ _); rotate_left; (focus (first | omega | (simp; done) | (simp; omega)))) | ((with_reducible refine Below.alloc ?_ ?_ _); rotate_left; (focus (first | omega | (simp; done) | (simp; omega)))) | (with_reducible refine Below.drew ?_) | (with_reducible refine below_drewN ?_ _)))) (b4.mono (by first | omega | (simp; done) | (simp; omega))))
          have z0 := (B4.out.cell (p := ⟨b1, o1, none⟩) k1).trans e0
          have z1 := (B4.out.cell (p := ⟨b1, o1 + 1, none⟩) k1).trans e1
          have z2 := (B4.out.cell (p := ⟨b2, o2, none⟩) k2).trans e2
          have z3 := (B4.out.cell (p := ⟨b2, o2 + 1, none⟩) k2).trans e3
          have s4 := B4.out.size
          have OWN4 := Lib.hid (own_keep HOWN.out (fun g _ hg => B4.out.block g hg))
          have l1 : b1 < w4.heap.size := by omega
          have l2 : b2 < w4.heap.size := by omega
          clear b4 e0 e1 e2 e3
          go_wp2_with fail
          go_region_held3 (fun w' => w'.cell? ⟨b1, o1, none⟩ = some (.int .i64 p) ∧ w'.cell? ⟨b1, o1 + 1, none⟩ = some (.int .i64 q)) (first | (go_simp; done) | (go_keep; done) | (refine ⟨?_, ?_⟩ <;> first | (go_simp; done) | (go_keep; done))) (first | ((refine app1_step rfl _ _ 42 rfl Try.underlying42 eiScore w.heap.size (by rfl) OWN4.out (by rfl) rfl (by simp [Value.oneCell']) (by omega) (by omega) ?_; intro v8 w8 hown8 hb8; have OWN8 := Lib.hid hown8; have B8 := Lib.hid hb8; have f0 := (hb8.cell (p := ⟨b1, o1, none⟩) (by omega)).trans z0; have f1 := (hb8.cell (p := ⟨b1, o1 + 1, none⟩) (by omega)).trans z1; clear hown8 hb8)))
          go_wp2_with fail
          go_roundw
          case rel =>
            refine ⟨_, xc - 1, A, some ⟨b2, o2, none⟩, yc, (r, s) :: B, D ++ [(p, q)], by rw [← HNA.out], by rw [List.length_cons, HNB.out], HA.out.tail, by rw [List.length_cons, HNB.out]; exact HB.out, ?_, ?_, ?_, HS.out.2.2.1, HS.out.2.1, below_tr HBR.out (below_tr (B4.out.mono hsz) B8.out)⟩
            · rw [List.length_append, List.flatMap_append]
              exact OWN8.out
            · rw [← HMER.out, HST.out, List.append_assoc]
              rfl
            · have := HNA.out; have := HNB.out; simp; omega
          case measure => simp [sliceN]
end Go.Proofs.Ytoljilbldkbjpaa
