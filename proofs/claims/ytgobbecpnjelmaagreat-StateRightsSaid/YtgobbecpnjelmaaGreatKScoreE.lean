/-
  ScoreE: Walks of score.Sort and of the reference's Sort.
-/
import Derived.Test.YtgobbecpnjelmaaGreatJ0c
namespace Go.Proofs.YtgobbecpnjelmaaGreat
open Go.RowKit

set_option maxRecDepth 100000 in
set_option maxHeartbeats 4000000 in
theorem ssort_any (v : Value) (l : List (Int × Int)) (w : World) (h : PairsR w v l) (hl : l.length ≤ 10000) :
    Calls Tryz.prog 70 #[v] w fun e w' => ∃ v', e = .returned (.tuple #[v', .int .i64 (if allS l = true then 0 else 130)]) ∧ PairsR w' v' (if allS l = true then sortS l else []) ∧ Below w.heap.size w w' := by
  have HX := Lib.hid h
  have HALL := Lib.hid (fun W (hW : PairsR W v l) => sall_any v l W hW)
  obtain ⟨xa, xc, rfl⟩ := h.shape
  cases hs : allS l with
  | false =>
    rw [hs] at HALL
    clear hs h hl
    generalize l.length = n at *
    simp only [Bool.false_eq_true, if_false] at HALL ⊢
    go_enter Tryz.func70, Tryz.ntmps70
    go_wp2_with fail
    (with_reducible refine (HALL.out _ HX.out).mono ?_); rintro e w1 ⟨rfl, b1⟩; have s1 : w.heap.size ≤ w1.heap.size := sz b1; have B1 := Lib.hid (Bc (B := w.heap.size) (a := w) bw b1); clear b1
    go_wp2_with fail
    go_ret2
    exact ⟨_, rfl, pairs_nil _ _ _ (by omega), bx B1.out⟩
  | true =>
    have HSO := Lib.hid (fun W (hW : PairsR W (.slice xa l.length xc) l) => ssorted_any _ _ l W (Nat.le_refl _) hW hl hs)
    rw [half_sort hs] at HSO
    rw [hs] at HALL
    clear hs h hl
    generalize l.length = n at *
    generalize sortS l = L at *
    simp only [if_true] at HALL ⊢
    go_enter Tryz.func70, Tryz.ntmps70
    go_wp2_with fail
    (with_reducible refine (HALL.out _ HX.out).mono ?_); rintro e w1 ⟨rfl, b1⟩; have s1 : w.heap.size ≤ w1.heap.size := sz b1; have B1 := Lib.hid (Bc (B := w.heap.size) (a := w) bw b1); have HX := Lib.hid ((HX.out.below bw).below b1); clear b1
    go_wp2_with fail
    (with_reducible refine (HSO.out _ HX.out).mono ?_)
    rintro e w2 ⟨v2, rfl, p2, b2⟩
    have P2 := Lib.hid p2
    obtain ⟨a2, c2, rfl⟩ := p2.shape
    have B2 := Lib.hid (below_tr B1.out (b2.mono s1))
    clear b2 p2
    go_wp2_with fail
    go_ret2
    exact ⟨_, rfl, P2.out, B2.out⟩

theorem PairsR.capN {w : World} {a : Option Addr} {n c : Nat} {l : List (Int × Int)} (h : PairsR w (.slice a n c) l) : n = l.length ∧ l.length ≤ c ∧ c ≤ 9223372036854775807 := by
  obtain ⟨_, _, e, h1, h2, _⟩ := h
  injection e with _ e2 e3
  subst e2 e3
  exact ⟨rfl, h1, h2⟩

theorem PairsR.takeN {w : World} {a : Option Addr} {n c k : Nat} {l : List (Int × Int)} (h : PairsR w (.slice a n c) l) (hk : k ≤ l.length) : PairsR w (.slice a k c) (l.take k) := by
  obtain ⟨a', c', e, h1, h2, h3, g⟩ := h
  injection e with e1 e2 e3
  subst e1 e3
  refine ⟨a, c, by rw [List.length_take, Nat.min_eq_left hk], by rw [List.length_take]; omega, h2, by rw [List.length_take]; omega, fun i p hi => ?_⟩
  rw [List.getElem?_take] at hi
  split at hi
  · exact g i p hi
  · cases hi

theorem PairsR.dropN {w : World} {b o n c k : Nat} {l : List (Int × Int)} (h : PairsR w (.slice (some ⟨b, o, none⟩) n c) l) (hk : k ≤ l.length) : PairsR w (.slice (some ⟨b, o + k * 2, none⟩) (n - k) (c - k)) (l.drop k) := by
  obtain ⟨q1, q2, q3⟩ := h.capN
  have := h.cutAt (i := k) (m := n - k) (by omega) rfl (c - k) (by omega) (by omega)
  rwa [List.take_of_length_le (by rw [List.length_drop, q1]; exact Nat.le_refl _)] at this

theorem pairs_nil' (w : World) (a : Option Addr) (n c : Nat) (hn : n = 0) (hc : c ≤ 9223372036854775807) : PairsR w (.slice a n c) [] := by
  subst hn
  exact pairs_nil w a c hc

theorem cut_none {x : Int × Int} {L : List (Int × Int)} {k : Nat} (h : cutAt x L = k + cutAt x (L.drop k)) (hk : L.length ≤ k) : cutAt x L = k := by
  rw [h, List.drop_of_length_le hk]
  rfl

theorem drop_cons_at {L : List (Int × Int)} {k : Nat} {y : Int × Int} (h : L[k]? = some y) : L.drop k = y :: L.drop (k + 1) := by
  have hk := (List.getElem?_eq_some_iff.1 h).1
  rw [List.drop_eq_getElem_cons hk]
  have : L[k] = y := (List.getElem?_eq_some_iff.1 h).2
  rw [this]

theorem cut_more {x y : Int × Int} {L : List (Int × Int)} {k : Nat} (h : cutAt x L = k + cutAt x (L.drop k)) (hy : L[k]? = some y) (ho : oddI y x ≤ 0) : cutAt x L = (k + 1) + cutAt x (L.drop (k + 1)) := by
  rw [h, drop_cons_at hy]
  simp only [cutAt, if_pos ho]
  omega

theorem cut_here {x y : Int × Int} {L : List (Int × Int)} {k : Nat} (h : cutAt x L = k + cutAt x (L.drop k)) (hy : L[k]? = some y) (ho : ¬ oddI y x ≤ 0) : cutAt x L = k := by
  rw [h, drop_cons_at hy]
  simp only [cutAt, if_neg ho]
  omega

def insT (l : List (Int × Int)) (i : Nat) : List (Int × Int) := (l.take i).foldl insS []

theorem insT_next {l : List (Int × Int)} {i : Nat} {x : Int × Int} (h : l[i]? = some x) : insT l (i + 1) = insS (insT l i) x := by
  unfold insT
  rw [take_snoc' h, List.foldl_append]
  rfl

theorem insT_all {l : List (Int × Int)} (h : allS l = true) (i : Nat) : allS (insT l i) = true ∧ (insT l i).length = (l.take i).length := by
  have := sortS_ok (allS_cut h i).1
  exact ⟨allS_perm (allS_cut h i).1 this.1.symm, this.1.length_eq⟩

theorem insT_end {l : List (Int × Int)} {i : Nat} (h : l.length ≤ i) : insT l i = sortS l := by
  unfold insT sortS
  rw [List.take_of_length_le h]

theorem insS_cut {L : List (Int × Int)} {x : Int × Int} {k : Nat} (h : cutAt x L = k) : insS L x = L.take k ++ ([x] ++ L.drop k) := by
  unfold insS
  rw [h]
  rfl

set_option maxRecDepth 100000 in
set_option maxHeartbeats 8000000 in
theorem rsort13_any (v : Value) (l : List (Int × Int)) (w : World) (h : PairsR w v l) (hl : l.length ≤ 10000) :
    Calls Tryz.prog 72 #[v] w fun e w' => ∃ v', e = .returned (.tuple #[v', .int .i64 (if allS l = true then 0 else 130)]) ∧ PairsR w' v' (if allS l = true then sortS l else []) ∧ Below w.heap.size w w' := by
  have HX := Lib.hid h
  have HALL := Lib.hid (fun W (hW : PairsR W v l) => rall13_any v l W hW)
  obtain ⟨xa, xc, rfl⟩ := h.shape
  obtain ⟨n, hn⟩ : ∃ n, l.length = n := ⟨_, rfl⟩
  rw [hn] at HX HALL hl ⊢
  have HN := Lib.hid hn
  clear hn
  cases hs : allS l with
  | false =>
    rw [hs] at HALL
    clear hs h hl HN
    simp only [Bool.false_eq_true, if_false]
    go_enter Tryz.func72, Tryz.ntmps72
    go_wp2_with fail
    (with_reducible refine (HALL.out _ HX.out).mono ?_); rintro e w1 ⟨rfl, b1⟩; have s1 : w.heap.size ≤ w1.heap.size := sz b1; have B1 := Lib.hid (Bc (B := w.heap.size) (a := w) bw b1); clear b1
    go_wp2_with fail
    go_ret2
    exact ⟨_, rfl, pairs_nil _ _ _ (by omega), bx B1.out⟩
  | true =>
    have HS := Lib.hid hs
    rw [hs] at HALL
    clear hs h
    simp only [if_true]
    go_enter Tryz.func72, Tryz.ntmps72
    go_wp2_with fail
    (with_reducible refine (HALL.out _ HX.out).mono ?_); rintro e w1 ⟨rfl, b1⟩; have s1 : w.heap.size ≤ w1.heap.size := sz b1; have B1 := Lib.hid (Bc (B := w.heap.size) (a := w) bw b1); clear b1
    go_wp2_with fail
    go_loopw [4, 5] (fun out i wr => ∃ (j : Nat) (oa : Option Addr) (oc : Nat), out = .slice oa j oc ∧ i = .int .i64 j ∧ j ≤ n ∧ PairsR wr (.slice oa j oc) (insT l j) ∧ Below w.heap.size w wr) (fun _ i _ => n - (intOf i).toNat)
    case atStart => exact ⟨0, none, 0, rfl, rfl, by omega, pairs_nil _ _ _ (by omega), B1.out⟩
    case round =>
      obtain ⟨W0, rfl⟩ : ∃ W0, W0 = wr := ⟨wr, rfl⟩
      obtain ⟨j, oa, oc, rfl, rfl, hj, hout, hbr⟩ := hrel
      have HO := Lib.hid hout
      have HBR := Lib.hid hbr
      have hsz := hbr.size
      have i1 : (0 : Int) ≤ (j : Int) := by omega
      by_cases hlt : j < n
      · obtain ⟨⟨p, q⟩, hx⟩ := getElem?_ex (l := l) (k := j) (by rw [HN.out]; exact hlt)
        obtain ⟨b, o, rfl⟩ := HX.out.addr (by rw [HN.out]; omega)
        obtain ⟨hb, c0, c1⟩ := HX.out.at hx
        have e0 := (hbr.cell (p := ⟨b, o + j * 2, none⟩) hb).trans c0
        have e1 := (hbr.cell (p := ⟨b, o + j * 2 + 1, none⟩) hb).trans c1
        have E0 := Lib.hid e0
        have E1 := Lib.hid e1
        have hlj : j ≤ 10000 := by omega
        have hoc : j ≤ oc := by have := HO.out.capN; omega
        have hoc2 : oc ≤ 9223372036854775807 := by have := HO.out.capN; omega
        have i2 : (j : Int) < (n : Int) := by omega
        have hbz : b < W0.heap.size := by omega
        have hs1 := scoreB_is.1 (allS_mem HS.out (List.mem_of_getElem? hx))
        have HK := Lib.hid (insT_next hx)
        obtain ⟨g1, g2⟩ := insT_all HS.out j
        have HG := Lib.hid (show ∀ y ∈ insT l j, scoreB y = true from fun y hy => allS_mem g1 hy)
        have HGL := Lib.hid (show (insT l j).length = j by rw [g2, List.length_take, HN.out]; omega)
        obtain ⟨L, hL⟩ : ∃ L, insT l j = L := ⟨_, rfl⟩
        rw [hL] at HO HK HG HGL
        clear hout hbr c0 c1 hx g1 g2 hL e0 e1
        obtain ⟨⟨f1, f2⟩, ⟨f3, f4⟩, _⟩ := hs1
        dsimp only at f1 f2 f3 f4
        have HOD := Lib.hid (fun r s W (h1 : scoreB (r, s) = true) => rodder_any r s p q W (scoreB_is.1 h1).2.1 (by have := (scoreB_is.1 h1).1; omega) ⟨f3, f4⟩ ⟨by omega, f2⟩)
        clear f1 f2 f3 f4
        go_wp2_with fail
        go_loopw [6] (fun kk wq => ∃ k : Nat, kk = .int .i64 k ∧ k ≤ j ∧ cutAt (p, q) L = k + cutAt (p, q) (L.drop k) ∧ Below W0.heap.size W0 wq) (fun kk _ => j - (intOf kk).toNat)
        case atStart => exact ⟨0, rfl, by omega, by simp, Below.refl _ _⟩
        case round =>
          obtain ⟨k, rfl, hk, hcut, hbq⟩ := hrel
          have HCUT := Lib.hid hcut
          have HBQ := Lib.hid hbq
          have hsq := hbq.size
          have m1 : (0 : Int) ≤ (k : Int) := by omega
          have z0 := (hbq.cell (p := ⟨b, o + j * 2, none⟩) hbz).trans E0.out
          have z1 := (hbq.cell (p := ⟨b, o + j * 2 + 1, none⟩) hbz).trans E1.out
          have hbz' : b < wr.heap.size := by omega
          by_cases hkl : k < j
          · obtain ⟨⟨r, s⟩, hy⟩ := getElem?_ex (l := L) (k := k) (by rw [HGL.out]; exact hkl)
            obtain ⟨b2, o2, rfl⟩ := HO.out.addr (by rw [HGL.out]; omega)
            obtain ⟨hb2, c0, c1⟩ := HO.out.at hy
            have y0 := (hbq.cell (p := ⟨b2, o2 + k * 2, none⟩) hb2).trans c0
            have y1 := (hbq.cell (p := ⟨b2, o2 + k * 2 + 1, none⟩) hb2).trans c1
            have HO2 := Lib.hid (fun W => HOD.out r s W (HG.out _ (List.mem_of_getElem? hy)))
            have HMORE := Lib.hid (fun h : oddI (r, s) (p, q) ≤ 0 => cut_more HCUT.out hy h)
            have HHERE := Lib.hid (fun h : ¬ oddI (r, s) (p, q) ≤ 0 => cut_here HCUT.out hy h)
            have m2 : (k : Int) < (j : Int) := by omega
            clear hcut hbq c0 c1 hy
            generalize oddI (r, s) (p, q) = R at *
            by_cases hR : R ≤ 0
            · have HM := Lib.hid (HMORE.out hR)
              clear HHERE HMORE
              go_wp2_with fail
              refine wp_region_tail_quiet 13 (by kernel_rfl) (by kernel_rfl) ?_; simp only [List.take_succ_cons, List.take_zero, List.drop_succ_cons, List.drop_zero]; (repeat (go_big_quiet_step (fail))); refine wpQuiet_nil ?_
              go_wp2_with fail
              (with_reducible refine (HO2.out _).mono ?_)
              rintro e w4 ⟨rfl, b4⟩
              have B4 := Lib.hid (show Below W0.heap.size W0 w4 from below_tr HBQ.out (below_tr bw (b4.mono (by first | omega | (simp; done) | (simp; omega)))))
              clear b4
              go_wp2_with fail
              go_roundw
              case rel => exact ⟨k + 1, by go_num, by omega, HM.out, B4.out⟩
              case measure => simp [intOf] <;> omega
            · have HM := Lib.hid (HHERE.out hR)
              clear HHERE HMORE
              go_wp2_with fail
              refine wp_region_tail_quiet 13 (by kernel_rfl) (by kernel_rfl) ?_; simp only [List.take_succ_cons, List.take_zero, List.drop_succ_cons, List.drop_zero]; (repeat (go_big_quiet_step (fail))); refine wpQuiet_nil ?_
              go_wp2_with fail
              (with_reducible refine (HO2.out _).mono ?_)
              rintro e w4 ⟨rfl, b4⟩
              have B4 := Lib.hid (show Below W0.heap.size W0 w4 from below_tr HBQ.out (below_tr bw (b4.mono (by first | omega | (simp; done) | (simp; omega)))))
              clear b4
              have q5 : ¬ oc = k := by omega
              have q6 : k ≤ oc := by omega
              have q7 : (k : Int) ≤ (j : Int) := by omega
              have s4 := B4.out.size
              go_wp2_with (at_builtin; go_must (refine appPairs rfl _ _ 53 rfl Tryz.underlying53 eiScore w4.heap.size (by rfl) (own0S w4) (by rfl) ((HO.out.takeN (k := k) (by rw [HGL.out]; omega)).below (bx B4.out)) (by have := HGL.out; simp; omega) (by simp) ?_))
              intro v5 w5 hown5 hb5 _
              have B5 := Lib.hid (show Below W0.heap.size W0 w5 from below_tr (bx B4.out) (hb5.mono s4))
              have OWN5 := Lib.hid hown5
              have s5 : w4.heap.size ≤ w5.heap.size := by have := hb5.size; simp at this; omega
              have t0 := (B5.out.cell (p := ⟨b, o + j * 2, none⟩) hbz).trans E0.out
              have t1 := (B5.out.cell (p := ⟨b, o + j * 2 + 1, none⟩) hbz).trans E1.out
              clear hown5 hb5
              go_wp2_with (at_builtin; go_must (refine app1 rfl _ _ 53 rfl Tryz.underlying53 eiScore w4.heap.size (by rfl) OWN5.out (by rfl) rfl (by simp [Value.oneCell']) (by have := HGL.out; simp; omega) s5 ?_))
              intro v6 w6 hown6 hb6 _
              have B6 := Lib.hid (show Below W0.heap.size W0 w6 from below_tr B5.out (hb6.mono s4))
              have OWN6 := Lib.hid hown6
              have s6 : w4.heap.size ≤ w6.heap.size := by have := hb6.size; omega
              clear hown6 hb6
              go_wp2_with (at_builtin; go_must (refine appPairs rfl _ _ 53 rfl Tryz.underlying53 eiScore w4.heap.size (by rfl) OWN6.out (by rfl) ((HO.out.dropN (k := k) (by rw [HGL.out]; omega)).below B6.out) (by have := HGL.out; simp; omega) s6 ?_))
              intro v7 w7 hown7 hb7 _
              have B7 := Lib.hid (show Below W0.heap.size W0 w7 from below_tr B6.out (hb7.mono s4))
              have P7 := Lib.hid (show PairsR w7 v7 (insT l (j + 1)) from by
                rw [HK.out, insS_cut HM.out]
                have h := hown7
                exact own_pairs (by simpa [pairF] using h) (by have := HGL.out; simp; omega) (by have := HGL.out; simp; omega))
              have hl7 : (insT l (j + 1)).length = j + 1 := by
                rw [HK.out, insS_cut HM.out]
                have := HGL.out
                simp
                omega
              obtain ⟨a7, c7, rfl⟩ := P7.out.shape
              rw [hl7] at P7 ⊢
              clear hown7 hb7
              go_wp2_with fail
              go_roundw
              case rel => exact ⟨j + 1, a7, c7, rfl, by go_num, by omega, P7.out, below_tr HBR.out (B7.out.mono hsz)⟩
              case measure => simp [intOf] <;> omega
          · have HM := Lib.hid (cut_none HCUT.out (by rw [HGL.out]; omega))
            clear hcut hbq
            have HKJ := Lib.hid (show k = j by omega)
            have q6 : k ≤ oc := by omega
            have q7 : (k : Int) ≤ (j : Int) := by omega
            have m2 : decide (k < j) = false := by rw [decide_eq_false_iff_not]; exact hkl
            go_wp2_with fail
            go_quiet (fail)
            have s4 : W0.heap.size ≤ wr.heap.size := HBQ.out.size
            have HD := Lib.hid (show L.drop k = [] from List.drop_of_length_le (by rw [HGL.out]; omega))
            go_wp2_with (at_builtin; go_must (refine appPairs rfl _ _ 53 rfl Tryz.underlying53 eiScore wr.heap.size (by rfl) (own0S (wr.drewN nq)) (by rfl) ((HO.out.takeN (k := k) (by rw [HGL.out]; omega)).below (bx HBQ.out)) (by have := HGL.out; simp; omega) (by simp) ?_))
            intro v5 w5 hown5 hb5 _
            have B5 := Lib.hid (show Below W0.heap.size W0 w5 from below_tr (bx HBQ.out) (hb5.mono s4))
            have OWN5 := Lib.hid hown5
            have s5 : wr.heap.size ≤ w5.heap.size := by have := hb5.size; simp at this; omega
            have t0 := (B5.out.cell (p := ⟨b, o + j * 2, none⟩) hbz).trans E0.out
            have t1 := (B5.out.cell (p := ⟨b, o + j * 2 + 1, none⟩) hbz).trans E1.out
            clear hown5 hb5
            go_wp2_with (at_builtin; go_must (refine app1 rfl _ _ 53 rfl Tryz.underlying53 eiScore wr.heap.size (by rfl) OWN5.out (by rfl) rfl (by simp [Value.oneCell']) (by have := HGL.out; simp; omega) s5 ?_))
            intro v6 w6 hown6 hb6 _
            have B6 := Lib.hid (show Below W0.heap.size W0 w6 from below_tr B5.out (hb6.mono s4))
            have OWN6 := Lib.hid hown6
            have s6 : wr.heap.size ≤ w6.heap.size := by have := hb6.size; omega
            clear hown6 hb6
            by_cases hck : oc = k
            all_goals
              go_wp2_with (at_builtin; go_must (refine appPairs rfl _ _ 53 rfl Tryz.underlying53 eiScore wr.heap.size (by rfl) OWN6.out (by rfl) (show PairsR _ _ (L.drop k) from by rw [HD.out]; exact pairs_nil' _ _ _ _ (by have := HKJ.out; omega) (by omega)) (by have := HGL.out; simp; omega) s6 ?_))
              intro v7 w7 hown7 hb7 _
              have B7 := Lib.hid (show Below W0.heap.size W0 w7 from below_tr B6.out (hb7.mono s4))
              have P7 := Lib.hid (show PairsR w7 v7 (insT l (j + 1)) from by
                rw [HK.out, insS_cut HM.out]
                have h := hown7
                exact own_pairs (by simpa [pairF] using h) (by have := HGL.out; simp; omega) (by have := HGL.out; simp; omega))
              have hl7 : (insT l (j + 1)).length = j + 1 := by
                rw [HK.out, insS_cut HM.out]
                have := HGL.out
                simp
                omega
              obtain ⟨a7, c7, rfl⟩ := P7.out.shape
              rw [hl7] at P7 ⊢
              clear hown7 hb7
              go_wp2_with fail
              go_roundw
              case rel => exact ⟨j + 1, a7, c7, rfl, by go_num, by omega, P7.out, below_tr HBR.out (B7.out.mono hsz)⟩
              case measure => simp [intOf] <;> omega
      · obtain rfl : j = n := by omega
        have HE := Lib.hid (show insT l j = sortS l from insT_end (by rw [HN.out]; exact Nat.le_refl _))
        go_wp2_with fail
        go_ret2
        exact ⟨_, rfl, by rw [← HE.out]; exact HO.out, HBR.out⟩
end Go.Proofs.YtgobbecpnjelmaaGreat
