/-
  Walk of DrawStays.
-/
import Derived.Test.YtfbodloidogliaaLaws06b
import Derived.BigQuiet
namespace Go.Proofs.Ytfbodloidogliaa
open Go.RowKit

/-- Append of a whole list of integers onto a row of the call's own. -/
theorem appInts {P : Program} {ops : Array Oper} {rest : List Oper} {o : Oper} {a : Act} {Q : Exit → Act → World → Prop} (hgd : o.guard = none) (s x : Operand) (t : TypeId)
    (ho : o.op = .call { callee := .builtin .append, args := #[s, x], argTypes := #[t, t] })
    {e : TypeId} {z : Value} {bytes : Nat} (ht : P.underlying t = some (.slice e)) (hE : EI P e z 1 bytes)
    (base : Nat) {v : Value} {n : Nat} {xs : List Value} {W : World} {k : IntKind} {vx : Value} {l : List Int} (hs : a.eval s = v) (hown : W.ownsRow base e 1 v n xs)
    (hx : a.eval x = vx) (hl : Ints k W vx l) (hbytes : (n + l.length) * bytes ≤ 140737488355328) (hbase : base ≤ W.heap.size)
    (h : ∀ v' w', w'.ownsRow base e 1 v' (n + l.length) (xs ++ l.map (Value.int k)) → Below base W w' → W.grownBy w' v.ownBlock → wpList P ops Q rest (a.put o.dst v') w') :
    wpList P ops Q (o :: rest) a W := by
  obtain ⟨i, hi, hz, hsize, hby, hzs, hsz, hbp⟩ := hE
  have h63 : n + l.length ≤ 140737488355328 := Nat.le_trans (Nat.le_mul_of_pos_right _ hbp) hbytes
  obtain ⟨ad, c, rfl, g1, g2, g3, h4⟩ := hl
  rcases ad with _ | ad
  · have hl0 : l = [] := by
      cases l with
      | nil => rfl
      | cons x l => obtain ⟨b, o, e, _⟩ := h4 0 x rfl; cases e
    subst hl0
    have hrun : (Builtin.append_ #[t, t] o.type #[v, .slice none 0 c]).run P W = .ok v W := by
      rcases hown.2 with ⟨rfl, rfl⟩ | ⟨g, cap, cur, rfl, _, _, hnc, _⟩
      · simp [Builtin.append_, run_underlying ht, sizeOf, typeInfo, hi, Builtin.lenOf, Builtin.firstCells]
      · simp [Builtin.append_, run_underlying ht, sizeOf, typeInfo, hi, Builtin.lenOf, Builtin.firstCells, hnc, storeCells]
    refine wpList_plain hgd fun K hK => ?_
    unfold Oper.wp execOp
    simp only [ho, resolve, invoke, builtin, Sem.run_bind, Sem.run_pure, Result.andThen_ok, List.map_toArray, List.map_cons, List.map_nil, hs, hx, List.length_nil, hrun]
    exact hK _ _ (h v W (by simpa using hown) (Below.refl _ _) ⟨rfl, rfl, rfl, Nat.le_refl _, fun _ _ _ => rfl⟩)
  · refine wpList_append_own _ hgd s x t ho base e i z 1 bytes ht hi hz hsize hby hzs hsz v n xs hs hown ad l.length c (l.map (Value.int k)) hx (by simp) ?_ (by intro u hu; simp at hu; obtain ⟨y, _, rfl⟩ := hu; rfl) (by unfold maxLen; omega) hbytes hbase ?_
    · intro j u hu
      rw [List.getElem?_map] at hu
      cases hy : l[j]? with
      | none => rw [hy] at hu; cases hu
      | some y =>
        rw [hy] at hu
        obtain ⟨b, o, e, _, hc⟩ := h4 j y hy
        injection e with e
        subst e
        have hadd : (⟨b, o, none⟩ : Addr).add j = ⟨b, o + j, none⟩ := by unfold Addr.add; split <;> simp_all
        rw [hadd, hc]
        simpa using hu
    · intro v' w' hown' hg _
      exact h v' w' hown' ((Below.refl _ _).grown hg hbase fun k hk => (hown.lt k hk).1) hg

theorem boundL_stays (l m : List Int) (n b : Nat) (x : Int) (hb : l[b]? = some x) (hx : x ≤ (topN n : Int)) : ∀ (t a : Nat), a ≤ b → b < a + t → (∀ j, a ≤ j → j < b → ∃ y, l[j]? = some y ∧ (topN n : Int) < y) →
    boundL (l.take (b + 1) ++ m) n t a = (x % (n : Int), (b : Int) + 1, 0) := by
  have hbl : b < l.length := (List.getElem?_eq_some_iff.1 hb).1
  have hget : ∀ j, j ≤ b → (l.take (b + 1) ++ m)[j]? = l[j]? := by
    intro j hj
    rw [List.getElem?_append_left (by simp; omega), List.getElem?_take, if_pos (by omega)]
  intro t
  induction t with
  | zero => intro a h1 h2; omega
  | succ t ih =>
    intro a h1 h2 h3
    rcases Nat.lt_or_ge a b with hlt | hge
    · obtain ⟨y, hy, hty⟩ := h3 a (Nat.le_refl _) hlt
      rw [boundL, hget a (by omega), hy]
      simp only
      rw [if_neg (by omega)]
      exact ih (a + 1) hlt (by omega) fun j h4 h5 => h3 j (by omega) h5
    · have : a = b := by omega
      subst this
      rw [boundL, hget a (by omega), hb]
      simp only
      rw [if_pos hx]

set_option maxRecDepth 100000 in
set_option maxHeartbeats 4000000 in
theorem drawStays_walk {w : World} (v : Value) (l : List Int) (h : ArgInts .u64 w v l) (v2 : Value) (m : List Int) (hm : ArgInts .u64 w v2 m) (a : Int) (ha : (Lit.int .i64 a).wf = true) (n0 : Int) (hn : (Lit.int .u64 n0).wf = true) (t : Int) (ht : (Lit.int .i64 t).wf = true) :
    Calls Try.prog 10 #[v, v2, .int .i64 a, .int .u64 n0, .int .i64 t] w fun e w' => e = .returned (.bool true) ∧ Below w.heap.size w w' := by
  have ha := wf_ok ha
  have ht := wf_ok ht
  have hn := bounds_u64 hn
  obtain ⟨n, rfl⟩ := Int.eq_ofNat_of_zero_le hn.1
  have hn := hn.2
  by_cases hl : (200 : Int) < l.length ∨ (200 : Int) < m.length
  · obtain ⟨ad, c, rfl, _⟩ := h
    obtain ⟨ad2, c2, rfl, _⟩ := hm
    clear hn ha ht
    have hl : (200 : Int) < l.length ∨ (¬ (200 : Int) < l.length ∧ (200 : Int) < m.length) := by omega
    rcases hl with hl | ⟨hl, hl2⟩
    all_goals
      go_enter Try.func10, Try.ntmps10
      go_wp2_with fail
      refine (lives06_any w).mono ?_
      rintro e w1 ⟨rfl, b1⟩
      have B1 := Lib.hid b1
      clear b1
      go_wp2
      go_ret
      exact ⟨rfl, B1.out⟩
  · have hll : ¬ (200 : Int) < l.length := by omega
    have hlm : ¬ (200 : Int) < m.length := by omega
    clear hl
    have i0 := h.ints (by omega)
    have j0 := hm.ints (by omega)
    have hu := argsU h
    have hum := argsU hm
    clear h hm
    have h1 : ∀ W : World, Ints .u64 W v l → _ := fun W hW => boundB_any v l a n t W hW hu hn ha
    by_cases he : (boundB l a n t).2.2 = 0
    · have hb : ¬ (n = 0 ∨ a < 0 ∨ t < 1 ∨ 64 < t) := fun hb => by rw [boundB, if_pos hb] at he; simp at he
      have hB : boundB l a n t = boundL l n t.toNat a.toNat := if_neg hb
      rw [hB] at he h1
      clear hB
      obtain ⟨A, rfl⟩ := Int.eq_ofNat_of_zero_le (show 0 ≤ a by omega)
      obtain ⟨T, rfl⟩ := Int.eq_ofNat_of_zero_le (show 0 ≤ t by omega)
      simp only [Int.toNat_natCast] at he h1
      obtain ⟨b, x, hAb, hbT, hlb, hxt, r1, r2, hgt⟩ := boundL_ok l hu n T A he
      rw [r1, r2, he] at h1
      have hbl : b < l.length := (List.getElem?_eq_some_iff.1 hlb).1
      have hnew : boundB (l.take (b + 1) ++ m) A n T = (((x % n : Nat) : Int), (b : Int) + 1, 0) := by
        rw [boundB, if_neg (by omega)]
        simp only [Int.toNat_natCast]
        exact boundL_stays l m n b x hlb hxt T A hAb (by omega) hgt
      have hun : AllU (l.take (b + 1) ++ m) := by
        intro z hz
        rcases List.mem_append.1 hz with h | h
        · exact hu z (List.mem_of_mem_take h)
        · exact hum z h
      have h2 : ∀ (V : Value) (W : World), Ints .u64 W V (l.take (b + 1) ++ m) → _ := fun V W hW => boundB_any V _ A n T W hW hun hn ha
      rw [hnew] at h2
      clear hnew hun r1 r2 he
      dsimp only at h2
      have htop := fun W => rtop_any n W hn
      obtain ⟨tp, htp⟩ : ∃ tp, topN n = tp := ⟨_, rfl⟩
      rw [htp] at hxt hgt htop
      clear htp
      have hmod : (((x % n : Nat) : Int)) = (x : Int) % (n : Int) := by push_cast; rfl
      rw [hmod] at h1 h2
      clear hmod
      obtain ⟨y, hy⟩ : ∃ y : Int, y = (b : Int) + 1 := ⟨_, rfl⟩
      rw [← hy] at h1 h2
      have y1 : ¬ y ≤ (A : Int) := by omega
      have y2 : ¬ (l.length : Int) < y := by omega
      have y3 : wrap64 (y - A) = y - A := IntWalk.wrap64_in _ (by omega)
      have y4 : ¬ (T : Int) < y - A := by omega
      have y5 : wrap64 (y - 1) = (b : Int) := by rw [IntWalk.wrap64_in _ (by omega)]; omega
      have y6 : y = ((b + 1 : Nat) : Int) := by omega
      have n1 : (n : Int) ≠ 0 := by omega
      have n2 : ¬ n = 0 := by omega
      have x1 : ¬ (tp : Int) < (x : Int) := by omega
      have d1 : decide (y ≤ (A : Int)) = false := decide_eq_false y1
      have d2 : decide ((l.length : Int) < y) = false := decide_eq_false y2
      have d4 : decide ((T : Int) < y - A) = false := decide_eq_false y4
      have d5 : decide ((tp : Int) < (x : Int)) = false := decide_eq_false x1
      have D1 := Lib.hid d1; have D2 := Lib.hid d2; have D4 := Lib.hid d4; have D5 := Lib.hid d5
      clear d1 d2 d4 d5 y1 y2 y4 x1
      have H1 := Lib.hid h1; have H2 := Lib.hid h2; have HTOP := Lib.hid htop
      have HG := Lib.hid hgt; have HLB := Lib.hid hlb
      have Y3 := Lib.hid y3; have Y5 := Lib.hid y5; have Y6 := Lib.hid y6; have HY := Lib.hid hy
      have hn64 := ha.2
      clear h1 h2 htop hgt hlb y3 y5 y6 hy hu hum hn ht ha hb hbT
      have hcells : ∀ W : World, Ints .u64 W v l → ∀ j z, l[j]? = some z → ∃ bl o c, v = .slice (some ⟨bl, o, none⟩) l.length c ∧ W.cell? ⟨bl, o + j, none⟩ = some (.int .u64 z) := by
        intro W hW j z hz
        obtain ⟨ad, c, rfl, _, _, _, h4⟩ := hW
        obtain ⟨bl, o, rfl, _, h5⟩ := h4 j z hz
        exact ⟨bl, o, c, rfl, h5⟩
      obtain ⟨bl, o, c, rfl, hxx⟩ := hcells w i0 b x HLB.out
      clear hxx
      have hcell : ∀ W : World, Ints .u64 W (.slice (some ⟨bl, o, none⟩) l.length c) l → ∀ j z, l[j]? = some z → W.cell? ⟨bl, o + j, none⟩ = some (.int .u64 z) := by
        intro W hW j z hz
        obtain ⟨bl', o', c', e, h5⟩ := hcells W hW j z hz
        injection e with e1 e2 e3
        injection e1 with e1
        injection e1 with e1 e4
        subst e1 e4
        exact h5
      have HC := Lib.hid hcell; clear hcell hcells
      obtain ⟨g1, g2⟩ : l.length ≤ c ∧ c ≤ 9223372036854775807 := by
        obtain ⟨_, _, e0, g1, g2, _, _⟩ := i0
        injection e0 with _ _ e0
        subst e0
        exact ⟨g1, g2⟩
      obtain ⟨ad2, c2, rfl⟩ := j0.shape
      have I0 := Lib.hid i0
      have J0 := Lib.hid j0
      clear i0 j0
      go_enter Try.func10, Try.ntmps10
      go_wp2_with fail
      refine (H1.out w I0.out).mono ?_
      rintro e w1 ⟨rfl, b1⟩
      have I1 := Lib.hid (I0.out.below b1)
      have J1 := Lib.hid (J0.out.below b1)
      have B1 := Lib.hid b1
      clear b1
      have hx1 := HC.out w1 I1.out b x HLB.out
      go_wp2_with fail
      have y3 := Y3.out
      have y5 := Y5.out
      have d1 := D1.out; have d2 := D2.out; have d4 := D4.out; have d5 := D5.out
      go_quiet ((go_at_call 38; exact quiet_left (HTOP.out _)))
      clear d1 d2 d4 d5
      go_wp2_with fail
      go_loopw [14] (fun i wr => ∃ k : Nat, A ≤ k ∧ k ≤ b ∧ i = .int .i64 k ∧ ∃ d, wr = w1.drewN d) (fun i _ => b - (intOf i).toNat)
      case atStart => exact ⟨A, Nat.le_refl _, hAb, rfl, _, rfl⟩
      case round =>
        obtain ⟨k, hk1, hk2, rfl, d, rfl⟩ := hrel
        by_cases hlt : k < b
        · obtain ⟨z, hz, hzt⟩ := HG.out k hk1 hlt
          have hcz := HC.out w1 I1.out k z hz
          have hkl : k < l.length := by omega
          have hdz : decide (z ≤ (tp : Int)) = false := decide_eq_false (by omega)
          have HZ := Lib.hid hz; clear hz
          have HDZ := Lib.hid hdz; clear hdz hzt
          go_wp2_with fail
          have hdz := HDZ.out
          go_quiet ((go_at_call 38; exact quiet_add_left (HTOP.out _)))
          go_wp2
          go_roundw
          case rel => exact ⟨k + 1, by omega, by omega, by go_num, _, rfl⟩
          case measure => simp [intOf] <;> omega
        · obtain rfl : k = b := by omega
          have hy6 := Y6.out
          subst hy6
          have bw : Below w.heap.size w ((w1.drewN d).alloc (.cells #[] 39)) := (below_drewN B1.out d).alloc (below_drewN B1.out d).size _
          have bw1 : Below w1.heap.size w1 ((w1.drewN d).alloc (.cells #[] 39)) := (below_drewN (Below.refl _ _) d).alloc (Nat.le_refl _) _
          have ho : ((w1.drewN d).alloc (.cells #[] 39)).ownsRow w1.heap.size 39 1 (.slice (some ⟨w1.heap.size, 0, none⟩) 0 0) 0 [] := World.ownsRow_made (w1.drewN d) #[] 0 (Nat.le_refl _) (Nat.zero_le _) (by simp)
          have BW := Lib.hid bw; have BW1 := Lib.hid bw1; have HO := Lib.hid ho
          clear bw bw1 ho
          go_wp2_with (at_builtin; go_must (refine appInts rfl _ _ 38 rfl Try.underlying38 eiU64 w1.heap.size (by rfl) HO.out (by rfl) (((I1.out.below BW1.out).take (k := k + 1) (by omega)).2) (by simp; omega) (by simp) ?_))
          intro v3 w3 ho3 b3 _
          have ho3' : w3.ownsRow w1.heap.size 39 1 v3 (min (k + 1) l.length) ((l.take (k + 1)).map (Value.int .u64)) := by rw [List.map_take]; exact ho3
          have B3 := Lib.hid (BW1.out.trans (b3.mono (by simp)))
          have HO3 := Lib.hid ho3'
          clear ho3 ho3' b3
          go_wp2_with (at_builtin; go_must (refine appInts rfl _ _ 38 rfl Try.underlying38 eiU64 w1.heap.size (by rfl) HO3.out (by rfl) (J1.out.below B3.out) (by omega) B3.out.size ?_))
          intro v4 w4 ho4 b4 _
          have B4 := Lib.hid (B3.out.trans b4)
          have i4 : Ints .u64 w4 v4 (l.take (k + 1) ++ m) := by
            refine (Ints.own (base := w1.heap.size) (e := 39) (n := min (k + 1) l.length + m.length) ?_ (by simp; omega)).2
            rw [List.map_append]
            simpa using ho4
          have I4 := Lib.hid i4
          clear ho4 b4 i4
          go_wp2_with fail
          refine (H2.out v4 w4 I4.out).mono ?_
          rintro e w5 ⟨rfl, b5⟩
          have B5 := Lib.hid ((B1.out.trans (B4.out.mono B1.out.size)).trans (b5.mono ((B1.out.trans (B4.out.mono B1.out.size)).size)))
          clear b5
          go_wp2_with fail
          refine (lives06_any _).mono ?_
          rintro e w6 ⟨rfl, b6⟩
          have B6 := Lib.hid (B5.out.trans (b6.mono B5.out.size))
          clear b6
          go_wp2
          go_ret
          exact ⟨rfl, B6.out⟩
    · have e2 := boundB_err l a n t he
      have e1 : (boundB l a n t).1 = 0 := by
        unfold boundB at he ⊢
        by_cases hb : n = 0 ∨ a < 0 ∨ t < 1 ∨ 64 < t
        · rw [if_pos hb]
        · rw [if_neg hb] at he ⊢
          exact (boundL_err l n _ _ he).1
      generalize boundB l a n t = X at *
      obtain ⟨x1, x2, x3⟩ := X
      dsimp only at *
      subst e1 e2
      have H1 := Lib.hid h1
      clear h1 hu hum hn ha ht
      have q' : (x3 == 0) = false := by simpa using he
      clear he
      obtain ⟨ad, c, rfl⟩ := i0.shape
      obtain ⟨ad2, c2, rfl⟩ := j0.shape
      have I0 := Lib.hid i0
      clear i0 j0
      go_enter Try.func10, Try.ntmps10
      go_wp2_with fail
      refine (H1.out w I0.out).mono ?_
      rintro e w1 ⟨rfl, b1⟩
      have B1 := Lib.hid b1
      clear b1
      go_wp2_with fail
      refine (lives06_any _).mono ?_
      rintro e w11 ⟨rfl, b11⟩
      have B11 := Lib.hid (B1.out.trans (b11.mono B1.out.size))
      clear b11
      go_wp2
      go_ret
      exact ⟨rfl, B11.out⟩
end Go.Proofs.Ytfbodloidogliaa
