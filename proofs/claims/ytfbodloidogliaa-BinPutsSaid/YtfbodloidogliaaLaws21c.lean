/-
  Walk of BinPuts.
-/
import Derived.Test.YtfbodloidogliaaLaws21
import Derived.Maps.AppendAt
namespace Go.Proofs.Ytfbodloidogliaa
open Go.RowKit

theorem putsU_all (n : Nat) : AllB (putsU n) := by
  intro x hx
  unfold putsU at hx
  split at hx
  · simp at hx; omega
  · simp only [List.mem_cons] at hx
    rcases hx with rfl | hx
    · have : (up n).length ≤ 8 := upF_length 8 n
      omega
    · exact up_byte n x hx

theorem putsIs_all : ∀ l : List Int, AllB (putsIs l) := by
  intro l
  induction l with
  | nil => intro x hx; simp [putsIs] at hx
  | cons i l ih =>
    intro x hx
    simp only [putsIs, List.mem_append] at hx
    rcases hx with hx | hx
    · exact putsU_all _ x hx
    · exact ih x hx

theorem rdI_puts (pre rest : List Int) (i : Int) (h : Ok64 i) : rdI (pre ++ (putsI i ++ rest)) pre.length = (i, pre.length + (putsI i).length, 0) := by
  have := rdU_puts pre rest (zig i) (by have := zig_lt h; omega)
  unfold rdI
  rw [show pre ++ (putsI i ++ rest) = pre ++ (putsU (zig i) ++ rest) from rfl, this]
  simp only [unzig_zig]; rfl

theorem rdN_puts (pre rest : List Int) (n : Nat) (h : n < 18446744073709551616) (most : Int) (hm : (n : Int) ≤ most) : rdN (pre ++ (putsU n ++ rest)) pre.length most = (n, pre.length + (putsU n).length, 0) := by
  unfold rdN
  rw [rdU_puts pre rest n h]
  simp only
  rw [if_neg (by omega), if_neg (by omega)]

theorem rdText_puts (pre rest s : List Int) (h : s.length < 18446744073709551616) : rdText (pre ++ (putsText s ++ rest)) pre.length s.length = (s, pre.length + (putsText s).length, 0) := by
  have e : pre ++ (putsText s ++ rest) = pre ++ (putsU s.length ++ (s ++ rest)) := by simp [putsText]
  unfold rdText
  rw [e, rdN_puts pre (s ++ rest) s.length h _ (Int.le_refl _)]
  simp only
  have hl : ¬ (pre ++ (putsU s.length ++ (s ++ rest))).length < pre.length + (putsU s.length).length + s.length := by simp; omega
  rw [if_neg (by omega), if_neg hl]
  have hd : (pre ++ (putsU s.length ++ (s ++ rest))).drop (pre.length + (putsU s.length).length) = s ++ rest := by
    rw [← List.append_assoc, ← List.length_append, List.drop_left]
  rw [hd, List.take_left]
  simp [putsText]; omega

theorem rdIs_puts (a0 : Nat) : ∀ (l pre rest acc : List Int), (∀ x ∈ l, Ok64 x) → rdIs (pre ++ (putsIs l ++ rest)) a0 l.length pre.length acc = (acc ++ l, pre.length + (putsIs l).length, 0) := by
  intro l
  induction l with
  | nil => intro pre rest acc _; simp [rdIs, putsIs]
  | cons i l ih =>
    intro pre rest acc h
    have e : pre ++ (putsIs (i :: l) ++ rest) = pre ++ (putsI i ++ (putsIs l ++ rest)) := by simp [putsIs]
    rw [e, List.length_cons, rdIs, rdI_puts pre _ i (h i (by simp))]
    simp only
    rw [if_neg (by omega)]
    have e2 : pre ++ (putsI i ++ (putsIs l ++ rest)) = (pre ++ putsI i) ++ (putsIs l ++ rest) := by simp
    have := ih (pre ++ putsI i) rest (acc ++ [i]) fun x hx => h x (by simp [hx])
    rw [List.length_append] at this
    rw [e2, this]
    simp [putsIs]; omega

theorem rdInts_puts (pre rest l : List Int) (h : l.length < 18446744073709551616) (h64 : ∀ x ∈ l, Ok64 x) : rdInts (pre ++ (putsInts l ++ rest)) pre.length l.length = (l, pre.length + (putsInts l).length, 0) := by
  have e : pre ++ (putsInts l ++ rest) = pre ++ (putsU l.length ++ (putsIs l ++ rest)) := by simp [putsInts]
  have e2 : pre ++ (putsU l.length ++ (putsIs l ++ rest)) = (pre ++ putsU l.length) ++ (putsIs l ++ rest) := by simp
  unfold rdInts
  rw [e, rdN_puts pre _ l.length h _ (Int.le_refl _)]
  simp only
  rw [if_neg (by omega), e2]
  have := rdIs_puts pre.length l (pre ++ putsU l.length) rest [] h64
  rw [List.length_append] at this
  rw [this]
  simp [putsInts]; omega

theorem puts_read (n : Nat) (i : Int) (s l : List Int) (hn : (n : Int) ≤ 18446744073709551615) (hi : Ok64 i) (hs : s.length ≤ 600) (hsb : AllB s) (hl : l.length ≤ 300) (h64 : ∀ x ∈ l, Ok64 x) :
    ∃ (B : List Int) (p1 p2 p3 : Nat), [] ++ putsU n ++ putsI i ++ putsText s ++ putsInts l = B ∧ AllB B ∧ B.length ≤ 3400 ∧ p1 ≤ B.length ∧ p2 ≤ B.length ∧ p3 ≤ B.length ∧
      rdU B 0 = (n, p1, 0) ∧ rdI B p1 = (i, p2, 0) ∧ rdText B p2 s.length = (s, p3, 0) ∧ rdInts B p3 l.length = (l, B.length, 0) := by
  have z1 := putsU_len (n := n)
  have z2 : (putsI i).length ≤ 9 := putsU_len (n := zig i)
  have z3 : (putsText s).length ≤ 609 := by have := putsU_len (n := s.length); simp [putsText]; omega
  have z4 : (putsInts l).length ≤ 2709 := by have := putsU_len (n := l.length); have := putsIs_len l; simp [putsInts]; omega
  refine ⟨_, (putsU n).length, (putsU n ++ putsI i).length, (putsU n ++ putsI i ++ putsText s).length, rfl, ?_, by simp; omega, by simp <;> omega, by simp <;> omega, by simp <;> omega, ?_, ?_, ?_, ?_⟩
  · intro x hx
    simp only [List.nil_append, List.mem_append] at hx
    rcases hx with ((hx | hx) | hx) | hx
    · exact putsU_all _ x hx
    · exact putsU_all _ x hx
    · rw [putsText, List.mem_append] at hx
      rcases hx with hx | hx
      · exact putsU_all _ x hx
      · exact hsb x hx
    · rw [putsInts, List.mem_append] at hx
      rcases hx with hx | hx
      · exact putsU_all _ x hx
      · exact putsIs_all _ x hx
  · have := rdU_puts [] (putsI i ++ (putsText s ++ putsInts l)) n (by omega)
    simpa using this
  · have := rdI_puts (putsU n) (putsText s ++ putsInts l) i hi
    simpa using this
  · have := rdText_puts (putsU n ++ putsI i) (putsInts l) s (by omega)
    simp only [List.length_append, List.append_assoc, List.nil_append, Nat.add_assoc] at this ⊢
    exact this
  · have := rdInts_puts (putsU n ++ putsI i ++ putsText s) [] l (by omega) h64
    simp only [List.length_append, List.append_assoc, List.nil_append, List.append_nil, Nat.add_assoc] at this ⊢
    exact this

/-- Append of a whole list of integers onto a row of the call's own, whatever its guard. -/
theorem appIntsW {P : Program} {ops : Array Oper} {rest : List Oper} {o : Oper} {a : Act} {Q : Exit → Act → World → Prop} (hgd : Region.wanted o (yielded ops a.tmps) = true) (s x : Operand) (t : TypeId)
    (ho : o.op = .call { callee := .builtin .append, args := #[s, x], argTypes := #[t, t] })
    {e : TypeId} {z : Value} {bytes : Nat} (ht : P.underlying t = some (.slice e)) (hE : EI P e z 1 bytes)
    (base : Nat) {v : Value} {n : Nat} {xs : List Value} {W : World} {k : IntKind} {vx : Value} {l : List Int} (hs : a.eval s = v) (hown : W.ownsRow base e 1 v n xs)
    (hx : a.eval x = vx) (hl : Ints k W vx l) (hbytes : (n + l.length) * bytes ≤ 140737488355328) (hbase : base ≤ W.heap.size)
    (h : ∀ v' w', w'.ownsRow base e 1 v' (n + l.length) (xs ++ l.map (Value.int k)) → Below base W w' → W.grownBy w' v.ownBlock → wpList P ops Q rest (a.put o.dst v') w') :
    wpList P ops Q (o :: rest) a W := by
  obtain ⟨i, hi, hz, hsize, hby, hzs, hsz, hbp⟩ := hE
  have h63 : n + l.length ≤ 140737488355328 := Nat.le_trans (Nat.le_mul_of_pos_right _ hbp) hbytes
  obtain ⟨ad, c, rfl, g1, g2, g3, h4⟩ := hl
  have hrun : ∃ v' w', (Builtin.append_ #[t, t] o.type #[v, .slice ad l.length c]).run P W = .ok v' w' ∧ w'.ownsRow base e 1 v' (n + l.length) (xs ++ l.map (Value.int k)) ∧ W.grownBy w' v.ownBlock := by
    rcases ad with _ | ad
    · have hl0 : l = [] := by
        cases l with
        | nil => rfl
        | cons x l => obtain ⟨b, o, e, _⟩ := h4 0 x rfl; cases e
      subst hl0
      refine ⟨v, W, ?_, by simpa using hown, ⟨rfl, rfl, rfl, Nat.le_refl _, fun _ _ _ => rfl⟩⟩
      rcases hown.2 with ⟨rfl, rfl⟩ | ⟨g, cap, cur, rfl, _, _, hnc, _⟩
      · simp [Builtin.append_, run_underlying ht, sizeOf, typeInfo, hi, Builtin.lenOf, Builtin.firstCells]
      · simp [Builtin.append_, run_underlying ht, sizeOf, typeInfo, hi, Builtin.lenOf, Builtin.firstCells, hnc, storeCells]
    · obtain ⟨v', w', hrun, h2, h3, _⟩ := run_append_own_at (P := P) W base t o.type e i z 1 bytes ht hi hz hsize hby hzs hsz v n xs hown ad l.length c (l.map (Value.int k)) (by simp) (by
        intro j u hu
        rw [List.getElem?_map] at hu
        cases hy : l[j]? with
        | none => rw [hy] at hu; cases hu
        | some y =>
          rw [hy] at hu
          obtain ⟨b, o, e, _, hc⟩ := h4 j y hy
          injection e with e
          subst e
          have hadd : (⟨b, o, none⟩ : Addr).add j = ⟨b, o + j, none⟩ := by unfold Addr.add; split <;> simp_all
          rw [hadd, hc]
          simpa using hu) (by intro u hu; simp at hu; obtain ⟨y, _, rfl⟩ := hu; rfl) (by unfold maxLen; omega) hbytes hbase
      exact ⟨v', w', hrun, h2, h3⟩
  obtain ⟨v', w', hrun, h2, h3⟩ := hrun
  refine wpList_step fun K hK => ?_
  rw [if_pos hgd]
  unfold Oper.wp execOp
  simp only [ho, resolve, invoke, builtin, Sem.run_bind, Sem.run_pure, Result.andThen_ok, List.map_toArray, List.map_cons, List.map_nil, hs, hx, hrun]
  exact hK _ _ (h v' w' h2 ((Below.refl _ _).grown h3 hbase fun k hk => (hown.lt k hk).1) h3)

theorem same01_eq (va vb : Value) (l : List Int) (w : World) (ha : Ints .i64 w va l) (hb : Ints .i64 w vb l) : Calls Try.prog 70 #[va, vb] w fun e w' => e = .returned (.bool true) ∧ ∃ n, w' = w.drewN n := by
  have := same_any va vb l l w ha hb
  rwa [show decide (l = l) = true by simp] at this

theorem own0 (w : World) : (w.alloc (.cells #[] 5)).ownsRow w.heap.size 5 1 (.slice (some ⟨w.heap.size, 0, none⟩) 0 0) 0 [] := World.ownsRow_made w #[] 0 (Nat.le_refl _) (Nat.zero_le _) (by simp)

theorem i64s {w : World} {v : Value} {l : List Int} (h : ArgInts .i64 w v l) : ∀ x ∈ l, Ok64 x := by
  obtain ⟨_, _, _, _, _, _, h⟩ := h
  exact fun x hx => wf_ok (h x hx)

set_option maxRecDepth 100000 in
set_option maxHeartbeats 4000000 in
theorem binPuts_walk {w : World} (v0 : Value) (l0 : List Int) (h0 : ArgInts .u8 w v0 l0) (n0 : Int) (hn : (Lit.int .u64 n0).wf = true) (i : Int) (hi : (Lit.int .i64 i).wf = true) (v1 : Value) (s : List Int) (h1 : ArgInts .u8 w v1 s) (v2 : Value) (l : List Int) (h2 : ArgInts .i64 w v2 l) :
    Calls Try.prog 12 #[v0, .int .u64 n0, .int .i64 i, v1, v2] w fun e w' => e = .returned (.bool true) ∧ Below w.heap.size w w' := by
  have hb0 := argsB h0
  have hb1 := argsB h1
  have h64 := i64s h2
  have hi := wf_ok hi
  have hn := bounds_u64 hn
  obtain ⟨n, rfl⟩ := Int.eq_ofNat_of_zero_le hn.1
  have hn := hn.2
  by_cases hbig : (300 : Int) < l0.length ∨ (600 : Int) < s.length ∨ (300 : Int) < l.length
  · obtain ⟨ad0, c0, rfl, _⟩ := h0
    obtain ⟨ad1, c1, rfl, _⟩ := h1
    obtain ⟨ad2, c2, rfl, _⟩ := h2
    have hl : (300 : Int) < l0.length ∨ (¬ (300 : Int) < l0.length ∧ (600 : Int) < s.length) ∨ (¬ (300 : Int) < l0.length ∧ ¬ (600 : Int) < s.length ∧ (300 : Int) < l.length) := by omega
    clear hbig hn hi
    rcases hl with hl | ⟨hl, hl2⟩ | ⟨hl, hl2, hl3⟩
    all_goals
      go_enter Try.func12, Try.ntmps12
      go_wp2_with fail
      refine (lives21_any w).mono ?_
      rintro e w1 ⟨rfl, b1⟩
      have B1 := Lib.hid b1
      clear b1
      go_wp2
      go_ret
      exact ⟨rfl, B1.out⟩
  · obtain ⟨q0, q1, q2⟩ : ¬ (300 : Int) < l0.length ∧ ¬ (600 : Int) < s.length ∧ ¬ (300 : Int) < l.length := by omega
    have i0 := h0.ints (by omega)
    have i1 := h1.ints (by omega)
    have i2 := h2.ints (by omega)
    have V0 := Lib.hid i0; have V1 := Lib.hid i1; have V2 := Lib.hid i2; have H64 := Lib.hid h64
    have z1 := putsU_len (n := n)
    have z2 : (putsI i).length ≤ 9 := putsU_len (n := zig i)
    have z3 : (putsText s).length ≤ 609 := by have := putsU_len (n := s.length); simp [putsText]; omega
    have z4 : (putsInts l).length ≤ 2709 := by have := putsU_len (n := l.length); have := putsIs_len l; simp [putsInts]; omega
    obtain ⟨ad0, c0, rfl⟩ := i0.shape
    obtain ⟨ad1, c1, rfl⟩ := i1.shape
    obtain ⟨ad2, c2, rfl⟩ := i2.shape
    clear h0 h1 h2 i0 i1 i2 hbig h64
    have e0 := Lib.hid (V0.out.below (w' := w.alloc (.cells #[] 5)) ((Below.refl _ _).alloc (Nat.le_refl _) _))
    have HO := Lib.hid (own0 w)
    go_enter Try.func12, Try.ntmps12
    go_wp2_with (at_builtin; go_must (refine appIntsW (by rfl) _ _ 58 rfl Try.underlying58 eiU8 w.heap.size (by rfl) HO.out (by rfl) e0.out (by omega) (by simp) ?_))
    intro vo wx hown bo _
    have bx : Below w.heap.size w wx := ((Below.refl _ _).alloc (Nat.le_refl _) _).trans bo
    have BX := Lib.hid bx
    have O := Lib.hid (Ints.own (k := .u8) (l := l0) (n := 0 + l0.length) (base := w.heap.size) (e := 5) (by simpa using hown) (by omega)).2
    clear hown bo HO e0 bx
    go_wp2_with fail
    refine (putU_any _ l0 n wx (V0.out.below BX.out) (by omega) hn).mono ?_
    rintro e wa ⟨va, rfl, oa, ba⟩
    have OA := Lib.hid (OwnB.ints oa (by simp; omega)); have BA := Lib.hid (BX.out.trans (ba.mono BX.out.size)); have OO := Lib.hid (O.out.below ba)
    clear oa ba
    have HE := Lib.hid (OO.out.below (w' := wa.alloc (.cells #[] 5)) ((Below.refl _ _).alloc (Nat.le_refl _) _))
    have HO := Lib.hid (own0 wa)
    go_wp2_with (at_builtin; go_must (refine appIntsW (by rfl) _ _ 58 rfl Try.underlying58 eiU8 wa.heap.size (by rfl) HO.out (by rfl) HE.out (by omega) (by simp) ?_))
    intro vb wb hown bo _
    have bb : Below wa.heap.size wa wb := ((Below.refl _ _).alloc (Nat.le_refl _) _).trans bo
    have BB := Lib.hid bb
    have OB := Lib.hid (show OwnB wb wa.heap.size vb l0 by simpa [OwnB] using hown)
    clear hown bo HO HE bb
    go_wp2_with fail
    refine (rU_any n _ hn).mono ?_
    rintro e wc ⟨vc, rfl, oc, bc⟩
    have IC := Lib.hid (OwnB.ints oc (by omega)); have OC := Lib.hid (OB.out.below bc); have BC := Lib.hid (BB.out.trans (bc.mono BB.out.size))
    clear oc bc
    go_wp2_with (at_builtin; go_must (refine appIntsW (by rfl) _ _ 58 rfl Try.underlying58 eiU8 wa.heap.size (by rfl) OC.out (by rfl) IC.out (by omega) BC.out.size ?_))
    intro vd wd hown bo _
    have BD := Lib.hid (BC.out.trans bo)
    have ID := Lib.hid (Ints.own (k := .u8) (l := l0 ++ putsU n) (n := l0.length + (putsU n).length) (base := wa.heap.size) (e := 5) (by simpa using hown) (by simp; omega)).2
    clear hown bo
    go_wp2_with fail
    refine (same21_eq va vd (l0 ++ putsU n) wd (OA.out.below BD.out) ID.out).mono ?_
    rintro e we ⟨rfl, rfl⟩
    clear BX O
    have BX := Lib.hid (BA.out.trans (BD.out.mono BA.out.size)); have O := Lib.hid (OO.out.below BD.out)
    clear OA BA OO BB OB IC OC BC BD ID
    go_wp2_with fail
    refine (putI_any _ l0 i wd (V0.out.below BX.out) (by omega) hi).mono ?_
    rintro e wa ⟨va, rfl, oa, ba⟩
    have OA := Lib.hid (OwnB.ints oa (by simp; omega)); have BA := Lib.hid (BX.out.trans (ba.mono BX.out.size)); have OO := Lib.hid (O.out.below ba)
    clear oa ba
    have HE := Lib.hid (OO.out.below (w' := wa.alloc (.cells #[] 5)) ((Below.refl _ _).alloc (Nat.le_refl _) _))
    have HO := Lib.hid (own0 wa)
    go_wp2_with (at_builtin; go_must (refine appIntsW (by rfl) _ _ 58 rfl Try.underlying58 eiU8 wa.heap.size (by rfl) HO.out (by rfl) HE.out (by omega) (by simp) ?_))
    intro vb wb hown bo _
    have bb : Below wa.heap.size wa wb := ((Below.refl _ _).alloc (Nat.le_refl _) _).trans bo
    have BB := Lib.hid bb
    have OB := Lib.hid (show OwnB wb wa.heap.size vb l0 by simpa [OwnB] using hown)
    clear hown bo HO HE bb
    go_wp2_with fail
    refine (rI_any i _ hi).mono ?_
    rintro e wc ⟨vc, rfl, oc, bc⟩
    have IC := Lib.hid (OwnB.ints oc (by omega)); have OC := Lib.hid (OB.out.below bc); have BC := Lib.hid (BB.out.trans (bc.mono BB.out.size))
    clear oc bc
    go_wp2_with (at_builtin; go_must (refine appIntsW (by rfl) _ _ 58 rfl Try.underlying58 eiU8 wa.heap.size (by rfl) OC.out (by rfl) IC.out (by omega) BC.out.size ?_))
    intro vd wd2 hown bo _
    have BD := Lib.hid (BC.out.trans bo)
    have ID := Lib.hid (Ints.own (k := .u8) (l := l0 ++ putsI i) (n := l0.length + (putsI i).length) (base := wa.heap.size) (e := 5) (by simpa using hown) (by simp; omega)).2
    clear hown bo
    go_wp2_with fail
    refine (same21_eq va vd (l0 ++ putsI i) wd2 (OA.out.below BD.out) ID.out).mono ?_
    rintro e we ⟨rfl, rfl⟩
    clear BX O
    have BX := Lib.hid (BA.out.trans (BD.out.mono BA.out.size)); have O := Lib.hid (OO.out.below BD.out)
    clear OA BA OO BB OB IC OC BC BD ID
    go_wp2_with fail
    refine (putText_any _ l0 _ s wd2 (V0.out.below BX.out) (V1.out.below BX.out) (by omega) (by omega)).mono ?_
    rintro e wa ⟨va, rfl, oa, ba⟩
    have OA := Lib.hid (OwnB.ints oa (by simp; omega)); have BA := Lib.hid (BX.out.trans (ba.mono BX.out.size)); have OO := Lib.hid (O.out.below ba)
    clear oa ba
    have HE := Lib.hid (OO.out.below (w' := wa.alloc (.cells #[] 5)) ((Below.refl _ _).alloc (Nat.le_refl _) _))
    have HO := Lib.hid (own0 wa)
    go_wp2_with (at_builtin; go_must (refine appIntsW (by rfl) _ _ 58 rfl Try.underlying58 eiU8 wa.heap.size (by rfl) HO.out (by rfl) HE.out (by omega) (by simp) ?_))
    intro vb wb hown bo _
    have bb : Below wa.heap.size wa wb := ((Below.refl _ _).alloc (Nat.le_refl _) _).trans bo
    have BB := Lib.hid bb
    have OB := Lib.hid (show OwnB wb wa.heap.size vb l0 by simpa [OwnB] using hown)
    clear hown bo HO HE bb
    go_wp2_with fail
    refine (rText_any _ s _ (V1.out.below (BA.out.trans (BB.out.mono BA.out.size))) (by omega)).mono ?_
    rintro e wc ⟨vc, rfl, oc, bc⟩
    have IC := Lib.hid (OwnB.ints oc (by omega)); have OC := Lib.hid (OB.out.below bc); have BC := Lib.hid (BB.out.trans (bc.mono BB.out.size))
    clear oc bc
    go_wp2_with (at_builtin; go_must (refine appIntsW (by rfl) _ _ 58 rfl Try.underlying58 eiU8 wa.heap.size (by rfl) OC.out (by rfl) IC.out (by omega) BC.out.size ?_))
    intro vd wd3 hown bo _
    have BD := Lib.hid (BC.out.trans bo)
    have ID := Lib.hid (Ints.own (k := .u8) (l := l0 ++ putsText s) (n := l0.length + (putsText s).length) (base := wa.heap.size) (e := 5) (by simpa using hown) (by simp; omega)).2
    clear hown bo
    go_wp2_with fail
    refine (same21_eq va vd (l0 ++ putsText s) wd3 (OA.out.below BD.out) ID.out).mono ?_
    rintro e we ⟨rfl, rfl⟩
    clear BX O
    have BX := Lib.hid (BA.out.trans (BD.out.mono BA.out.size)); have O := Lib.hid (OO.out.below BD.out)
    clear OA BA OO BB OB IC OC BC BD ID
    go_wp2_with fail
    refine (putInts_any _ l0 _ l wd3 (V0.out.below BX.out) (V2.out.below BX.out) H64.out (by omega) (by omega)).mono ?_
    rintro e wa ⟨va, rfl, oa, ba⟩
    have OA := Lib.hid (OwnB.ints oa (by simp; omega)); have BA := Lib.hid (BX.out.trans (ba.mono BX.out.size)); have OO := Lib.hid (O.out.below ba)
    clear oa ba
    have HE := Lib.hid (OO.out.below (w' := wa.alloc (.cells #[] 5)) ((Below.refl _ _).alloc (Nat.le_refl _) _))
    have HO := Lib.hid (own0 wa)
    go_wp2_with (at_builtin; go_must (refine appIntsW (by rfl) _ _ 58 rfl Try.underlying58 eiU8 wa.heap.size (by rfl) HO.out (by rfl) HE.out (by omega) (by simp) ?_))
    intro vb wb hown bo _
    have bb : Below wa.heap.size wa wb := ((Below.refl _ _).alloc (Nat.le_refl _) _).trans bo
    have BB := Lib.hid bb
    have OB := Lib.hid (show OwnB wb wa.heap.size vb l0 by simpa [OwnB] using hown)
    clear hown bo HO HE bb
    go_wp2_with fail
    refine (rInts_any _ l _ (V2.out.below (BA.out.trans (BB.out.mono BA.out.size))) H64.out (by omega)).mono ?_
    rintro e wc ⟨vc, rfl, oc, bc⟩
    have IC := Lib.hid (OwnB.ints oc (by omega)); have OC := Lib.hid (OB.out.below bc); have BC := Lib.hid (BB.out.trans (bc.mono BB.out.size))
    clear oc bc
    go_wp2_with (at_builtin; go_must (refine appIntsW (by rfl) _ _ 58 rfl Try.underlying58 eiU8 wa.heap.size (by rfl) OC.out (by rfl) IC.out (by omega) BC.out.size ?_))
    intro vd wd4 hown bo _
    have BD := Lib.hid (BC.out.trans bo)
    have ID := Lib.hid (Ints.own (k := .u8) (l := l0 ++ putsInts l) (n := l0.length + (putsInts l).length) (base := wa.heap.size) (e := 5) (by simpa using hown) (by simp; omega)).2
    clear hown bo
    go_wp2_with fail
    refine (same21_eq va vd (l0 ++ putsInts l) wd4 (OA.out.below BD.out) ID.out).mono ?_
    rintro e we ⟨rfl, rfl⟩
    clear BX O
    have BX := Lib.hid (BA.out.trans (BD.out.mono BA.out.size)); have O := Lib.hid (OO.out.below BD.out)
    clear OA BA OO BB OB IC OC BC BD ID
    go_wp2_with fail
    refine (same21_eq _ _ l0 _ (V0.out.below BX.out) O.out).mono ?_
    rintro e we ⟨rfl, rfl⟩
    clear O
    obtain ⟨B, p1, p2, p3, hB, hBA, hBl, hp1, hp2, hp3, E1, E2, E3, E4⟩ := puts_read n i s l hn hi (by omega) hb1 (by omega) H64.out
    have HB := Lib.hid hB
    have r1 := fun R vr W (hW : Rd W R vr B 0 0) => readU_any hW hBA (Nat.zero_le _) (by omega)
    have r2 := fun R vr W (hW : Rd W R vr B p1 0) => readI_any hW hBA hp1 (by omega)
    have r3 := fun R vr W (hW : Rd W R vr B p2 0) => readText_any hW hBA hp2 (by omega) s.length (by unfold Ok64; omega)
    have r4 := fun R vr W (hW : Rd W R vr B p3 0) => readInts_any hW hBA hp3 (by omega) l.length (by unfold Ok64; omega)
    rw [E1] at r1; rw [E2] at r2; rw [E3] at r3; rw [E4] at r4
    simp only at r1 r2
    have Q1 := Lib.hid r1; have Q2 := Lib.hid r2; have Q3 := Lib.hid r3; have Q4 := Lib.hid r4
    clear hB r1 r2 r3 r4 E1 E2 E3 E4
    go_wp2_with fail
    refine (putU_any _ [] n _ (ints_nil _ _ _ _ (by omega)) (by simp) hn).mono ?_
    rintro e w5 ⟨v5, rfl, o5, b5⟩
    have I5 := Lib.hid (OwnB.ints o5 (by simp; omega)); have B5 := Lib.hid (BX.out.trans (b5.mono BX.out.size))
    clear o5 b5
    go_wp2_with fail
    refine (putI_any v5 _ i _ I5.out (by simp; omega) hi).mono ?_
    rintro e w6 ⟨v6, rfl, o5, b5⟩
    have I6 := Lib.hid (OwnB.ints o5 (by simp; omega)); have B6 := Lib.hid (B5.out.trans (b5.mono B5.out.size))
    clear o5 b5 I5
    go_wp2_with fail
    refine (putText_any v6 _ _ s _ I6.out (V1.out.below B6.out) (by simp; omega) (by omega)).mono ?_
    rintro e w7 ⟨v7, rfl, o5, b5⟩
    have I7 := Lib.hid (OwnB.ints o5 (by simp; omega)); have B7 := Lib.hid (B6.out.trans (b5.mono B6.out.size))
    clear o5 b5 I6
    go_wp2_with fail
    refine (putInts_any v7 _ _ l _ I7.out (V2.out.below B7.out) H64.out (by omega) (by simp; omega)).mono ?_
    rintro e w8 ⟨v8, rfl, o5, b5⟩
    have I8 := Lib.hid (HB.out ▸ OwnB.ints o5 (by simp; omega)); have B8 := Lib.hid (B7.out.trans (b5.mono B7.out.size))
    clear o5 b5 I7
    go_wp2_with fail
    refine (from_any v8 B _ I8.out (by omega)).mono ?_
    rintro e w9 ⟨R, vr, rfl, hR, rd, b5⟩
    have A9 := Lib.hid rd; have B9 := Lib.hid (B8.out.trans (b5.mono B8.out.size))
    have hRw : w.heap.size ≤ R := Nat.le_trans B8.out.size hR
    clear b5 rd I8
    go_wp2_with fail
    refine (Q1.out R vr w9 A9.out).mono ?_
    rintro e w10 ⟨rfl, r5⟩
    have B10 := Lib.hid (below_only B9.out r5.2 (Nat.le_refl _) hRw); have A10 := Lib.hid r5.1
    clear r5
    go_wp2_with fail
    refine (Q2.out R vr w10 A10.out).mono ?_
    rintro e w11 ⟨rfl, r5⟩
    have B11 := Lib.hid (below_only B10.out r5.2 (Nat.le_refl _) hRw); have A11 := Lib.hid r5.1
    clear r5
    go_wp2_with fail
    refine (Q3.out R vr w11 A11.out).mono ?_
    rintro e w12 ⟨vt, rfl, it, r5⟩
    simp only at it r5
    have B12 := Lib.hid (below_only B11.out r5.2 (Nat.le_refl _) hRw); have A12 := Lib.hid r5.1; have T12 := Lib.hid it
    clear r5 it
    go_wp2_with fail
    refine (Q4.out R vr w12 A12.out).mono ?_
    rintro e w13 ⟨vi, rfl, it, r5⟩
    simp only at it r5
    have B13 := Lib.hid (below_only B12.out r5.2 (Nat.le_refl _) hRw); have A13 := Lib.hid r5.1; have U13 := Lib.hid it; have T13 := Lib.hid (Ints.only_rd A12.out T12.out r5.2)
    clear r5 it
    go_wp2_with fail
    refine (end_same A13.out rfl (by omega)).mono ?_
    rintro e w14 ⟨rfl, d14, rfl⟩
    have B14 := Lib.hid (below_drewN B13.out d14); have A14 := Lib.hid (A13.out.drewN d14); have U14 := Lib.hid (U13.out.drewN d14); have T14 := Lib.hid (T13.out.drewN d14)
    have HL : Hid ((B.length : Int) - (B.length : Nat) = 0) := Lib.hid (by omega)
    generalize w13.drewN d14 = w14 at *
    go_wp2_with fail
    refine (same21_eq vt _ s _ T14.out (V1.out.below B14.out)).mono ?_
    rintro e w15 ⟨rfl, rfl⟩
    go_wp2_with fail
    refine (same01_eq vi _ l _ U14.out (V2.out.below B14.out)).mono ?_
    rintro e w15 ⟨rfl, d15, rfl⟩
    go_wp2_with fail
    refine (err_any (A14.out.drewN d15)).mono ?_
    rintro e w15 ⟨rfl, rfl⟩
    go_wp2_with fail
    refine (bleft_any (A14.out.drewN d15) (Nat.le_refl _) (by omega)).mono ?_
    rw [HL.out]
    rintro e w15 ⟨rfl, d16, rfl⟩
    go_wp2_with fail
    refine (lives21_any _).mono ?_
    rintro e w16 ⟨rfl, b16⟩
    have B16 := Lib.hid ((below_drewN B14.out (d15 + d16)).trans (b16.mono (below_drewN B14.out (d15 + d16)).size))
    clear b16
    go_wp2
    go_ret
    exact ⟨rfl, B16.out⟩
end Go.Proofs.Ytfbodloidogliaa
