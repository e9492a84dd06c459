/-
  Walks of the reader's methods that read texts and lists (layer 21).
-/
import Derived.Test.YtfbodloidogliaaBinL
namespace Go.Proofs.Ytfbodloidogliaa
open Go.RowKit

theorem rdN_facts (l : List Int) (hb : AllB l) (a : Nat) (most : Int) : ((rdN l a most).2.2 ≠ 0 → (rdN l a most).1 = 0 ∧ (rdN l a most).2.1 = a) ∧ ((rdN l a most).2.2 = 0 → a < (rdN l a most).2.1 ∧ (rdN l a most).2.1 ≤ l.length ∧ ((rdN l a most).1 : Int) ≤ most) := by
  have h1 := rdU_bad l a
  have h2 := rdU_ok l hb a
  unfold rdN
  by_cases he : (rdU l a).2.2 = 0
  · rw [if_neg (by omega)]
    by_cases hm : most < 0 ∨ most < ((rdU l a).1 : Int)
    · rw [if_pos hm]; simp
    · rw [if_neg hm]
      exact ⟨fun h => absurd he h, fun _ => ⟨(h2 he).1, (h2 he).2.1, by omega⟩⟩
  · rw [if_pos he]
    exact ⟨fun _ => ⟨rfl, rfl⟩, fun h => absurd h he⟩

/-- What a method that hands back bytes does. -/
def RdT (k : IntKind) (w : World) (R : Nat) (v : Value) (l : List Int) (r : List Int × Nat × Int) (e : Ending) (w' : World) : Prop := ∃ v', e = .returned v' ∧ Ints k w' v' r.1 ∧ RdTo w R v l w' r.2.1 r.2.2

set_option maxRecDepth 100000 in
set_option maxHeartbeats 2000000 in
theorem readText_any {w : World} {R : Nat} {v : Value} {l : List Int} {a : Nat} (h : Rd w R v l a 0) (hb : AllB l) (ha : a ≤ l.length) (hl : l.length ≤ 100000) (most : Int) (hm : Ok64 most) :
    Calls Try.prog 67 #[.pointer (some ⟨R, 0, none⟩), .int .i64 most] w fun e w' => RdT .u8 w R v l (rdText l a most) e w' := by
  have HN := Lib.hid (readN_any h hb ha hl most hm)
  have H := Lib.hid h
  obtain ⟨c0, c1, c2, f1, f2⟩ := h.cells
  have hfc := rdN_facts l hb a most
  unfold rdText
  generalize rdN l a most = r at *
  obtain ⟨n, a', e'⟩ := r
  simp only at hfc HN ⊢
  clear h
  by_cases he : e' = 0
  · subst he
    obtain ⟨ha1, ha2, hn⟩ := hfc.2 rfl
    rw [if_neg (by omega)]
    clear hfc
    unfold Ok64 at hm
    have hn64 : (n : Int) ≤ 9223372036854775807 := by omega
    by_cases hs : l.length < a' + n
    · rw [if_pos hs]
      go_enter_defers Try.func67, Try.ntmps67
      go_wp2_with fail
      refine (dead_no H.out).mono ?_
      rintro e w1 ⟨rfl, rfl⟩
      go_wp2_with fail
      refine HN.out.mono ?_
      rintro e w1 ⟨rfl, h1⟩
      have H1 := Lib.hid h1
      clear h1
      go_wp2_with fail
      refine (dead_no H1.out.1).mono ?_
      rintro e w2 ⟨rfl, rfl⟩
      go_wp2_with fail
      refine (take_short H1.out.1 ha2 hl n (by omega)).mono ?_
      rintro e w2 ⟨rfl, h2⟩
      have H2 := Lib.hid (H1.out.trans h2)
      clear h2
      go_wp2_with fail
      refine (clone8_any _ [] w2 (ints_nil _ _ _ _ (by omega)) (by simp)).mono ?_
      rintro e w3 ⟨v3, rfl, ho, hb3⟩
      have H3 := Lib.hid (RdTo.trans H2.out ⟨H2.out.1.below hb3, only_below hb3⟩)
      have I3 := Lib.hid (Ints.own (k := .u8) (l := []) ho (by simp)).2
      clear ho hb3
      go_wp2
      refine leaves_cons (f := 93) (args := #[.pointer (some ⟨R, 0, none⟩), .int .i64 a]) (by simp) (by simp [go_sem]) ?_
      refine (back_rd .returning a H3.out.1).mono ?_
      rintro e u' w'' ⟨rfl, rfl, h4⟩
      rw [if_neg (by omega)] at h4
      exact ⟨_, results_tmp rfl _ _ _, v3, rfl, Ints.only_rd H3.out.1 I3.out h4.2, H3.out.trans h4⟩
    · rw [if_neg hs]
      go_enter_defers Try.func67, Try.ntmps67
      go_wp2_with fail
      refine (dead_no H.out).mono ?_
      rintro e w1 ⟨rfl, rfl⟩
      go_wp2_with fail
      refine HN.out.mono ?_
      rintro e w1 ⟨rfl, h1⟩
      have H1 := Lib.hid h1
      clear h1
      go_wp2_with fail
      refine (dead_no H1.out.1).mono ?_
      rintro e w2 ⟨rfl, rfl⟩
      go_wp2_with fail
      refine (take_yes H1.out.1 hl (by omega)).mono ?_
      rintro e w2 ⟨v2, rfl, hi2, h2⟩
      have H2 := Lib.hid (H1.out.trans h2)
      have I2 := Lib.hid hi2
      clear h2 hi2
      go_wp2_with fail
      refine (clone8_any v2 _ w2 I2.out (by simp; omega)).mono ?_
      rintro e w3 ⟨v3, rfl, ho, hb3⟩
      have H3 := Lib.hid (RdTo.trans H2.out ⟨H2.out.1.below hb3, only_below hb3⟩)
      have I3 := Lib.hid (Ints.own ho (by simp; omega)).2
      clear ho hb3
      go_wp2
      refine leaves_cons (f := 93) (args := #[.pointer (some ⟨R, 0, none⟩), .int .i64 a]) (by simp) (by simp [go_sem]) ?_
      refine (back_rd .returning a H3.out.1).mono ?_
      rintro e u' w'' ⟨rfl, rfl, h4⟩
      rw [if_pos rfl] at h4
      exact ⟨_, results_tmp rfl _ _ _, v3, rfl, Ints.only_rd H3.out.1 I3.out h4.2, H3.out.trans h4⟩
  · obtain ⟨rfl, rfl⟩ := hfc.1 he
    rw [if_pos he]
    clear hfc
    go_enter_defers Try.func67, Try.ntmps67
    go_wp2_with fail
    refine (dead_no H.out).mono ?_
    rintro e w1 ⟨rfl, rfl⟩
    go_wp2_with fail
    refine HN.out.mono ?_
    rintro e w1 ⟨rfl, h1⟩
    have H1 := Lib.hid h1
    clear h1
    go_wp2_with fail
    refine (dead_yes H1.out.1 he).mono ?_
    rintro e w2 ⟨rfl, rfl⟩
    go_wp2
    refine leaves_cons (f := 93) (args := #[.pointer (some ⟨R, 0, none⟩), .int .i64 a']) (by simp) (by simp [go_sem]) ?_
    refine (back_rd .returning a' H1.out.1).mono ?_
    rintro e u' w'' ⟨rfl, rfl, h4⟩
    rw [if_neg he] at h4
    exact ⟨_, results_tmp rfl _ _ _, _, rfl, ints_nil _ _ _ _ (by omega), H1.out.trans h4⟩

theorem rdI_facts (l : List Int) (hb : AllB l) (a : Nat) : ((rdI l a).2.2 ≠ 0 → (rdI l a).1 = 0 ∧ (rdI l a).2.1 = a) ∧ ((rdI l a).2.2 = 0 → a < (rdI l a).2.1 ∧ (rdI l a).2.1 ≤ l.length) := by
  have h1 := rdU_bad l a
  have h2 := rdU_ok l hb a
  unfold rdI
  exact ⟨fun h => ⟨by simp only; rw [(h1 h).1]; rfl, (h1 h).2⟩, fun h => ⟨(h2 h).1, (h2 h).2.1⟩⟩

/-- One number put behind a row of integers of the call's own. -/
theorem OwnI.app {w : World} {base : Nat} {v' : Value} {acc : List Int} {x : Int} (h : w.ownsRow base 3 1 v' (acc.length + 1) (acc.map (Value.int .i64) ++ [.int .i64 x])) : w.ownsRow base 3 1 v' (acc ++ [x]).length ((acc ++ [x]).map (Value.int .i64)) := by simpa using h

theorem own_only {w w' : World} {base e n R : Nat} {v : Value} {xs : List Value} (h : w.ownsRow base e 1 v n xs) (hg : w.grownBy w' (some R)) (hR : R < base) : w'.ownsRow base e 1 v n xs := by
  have hlt := h.lt
  refine ⟨h.1, ?_⟩
  rcases h.2 with h1 | ⟨g, cap, cur, rfl, h2, h3, h4⟩
  · exact .inl h1
  · exact .inr ⟨g, cap, cur, rfl, h2, (hg.block g (hlt g rfl).2 (by have := (hlt g rfl).1; simp; omega)).trans h3, h4⟩

theorem RdTo.belowB {w w2 w3 : World} {R : Nat} {v : Value} {l : List Int} {a0 a : Nat} {e0 e : Int} (h0 : Rd w R v l a0 e0) (h : RdTo w R v l w2 a e) (hb : Below w.heap.size w2 w3) : RdTo w R v l w3 a e := by
  refine ⟨⟨(hb.block R h0.lt).trans h.1.1, ?_⟩, ⟨hb.os.trans h.2.os, hb.tape.trans h.2.tape, hb.output.trans h.2.output, Nat.le_trans h.2.size hb.size, fun i hi hne => (hb.block i hi).trans (h.2.block i hi hne)⟩⟩
  obtain ⟨ad, c, rfl, g1, g2, g3, g4⟩ := h.1.2
  obtain ⟨ad', c', e1, _, _, _, g4'⟩ := h0.2
  injection e1 with e1 _ _
  subst e1
  refine ⟨ad, c, rfl, g1, g2, g3, fun i x hx => ?_⟩
  obtain ⟨b, o, rfl, hlt, hc⟩ := g4 i x hx
  obtain ⟨b', o', e2, hlt', _⟩ := g4' i x hx
  obtain ⟨rfl, rfl⟩ : b = b' ∧ o = o' := by injection e2 with e2; injection e2 with e3 e4; exact ⟨e3, e4⟩
  exact ⟨b, o, rfl, Nat.lt_of_lt_of_le hlt hb.size, (hb.cell (p := ⟨b, o + i, none⟩) hlt').trans hc⟩

/-- A list is being read: so far well, or it has failed. -/
def InR (w : World) (R : Nat) (v : Value) (l : List Int) (a n : Nat) (X : List Int × Nat × Int) (out m : Value) (wr : World) : Prop :=
  (∃ (k p : Nat) (acc : List Int), m = .int .i64 k ∧ k ≤ n ∧ wr.ownsRow w.heap.size 3 1 out acc.length (acc.map (Value.int .i64)) ∧ acc.length ≤ p ∧ p ≤ l.length ∧ RdTo w R v l wr p 0 ∧ rdIs l a k p acc = X) ∨
  (∃ e', e' ≠ 0 ∧ X = ([], a, e') ∧ (∃ k : Nat, m = .int .i64 k ∧ k ≤ n) ∧ (∃ p, RdTo w R v l wr p e'))

set_option maxRecDepth 100000 in
set_option maxHeartbeats 4000000 in
theorem readInts_any {w : World} {R : Nat} {v : Value} {l : List Int} {a : Nat} (h : Rd w R v l a 0) (hb : AllB l) (ha : a ≤ l.length) (hl : l.length ≤ 100000) (most : Int) (hm : Ok64 most) :
    Calls Try.prog 68 #[.pointer (some ⟨R, 0, none⟩), .int .i64 most] w fun e w' => RdT .i64 w R v l (rdInts l a most) e w' := by
  have HN := Lib.hid (readN_any h hb ha hl most hm)
  have H := Lib.hid h
  obtain ⟨c0, c1, c2, f1, f2⟩ := h.cells
  have hfc := rdN_facts l hb a most
  have hRlt := h.lt
  unfold rdInts
  generalize rdN l a most = r at *
  obtain ⟨n, a', e'⟩ := r
  simp only at hfc HN ⊢
  clear h
  unfold Ok64 at hm
  by_cases he : e' = 0
  · subst he
    obtain ⟨ha1, ha2, hn⟩ := hfc.2 rfl
    rw [if_neg (by omega)]
    clear hfc
    have hn64 : (n : Int) ≤ 9223372036854775807 := by omega
    obtain ⟨X, hX⟩ : ∃ X, rdIs l a n a' [] = X := ⟨_, rfl⟩
    rw [hX]
    have HX := Lib.hid hX
    clear hX
    go_enter_defers Try.func68, Try.ntmps68
    go_wp2_with fail
    refine (dead_no H.out).mono ?_
    rintro e w1 ⟨rfl, rfl⟩
    go_wp2_with fail
    refine HN.out.mono ?_
    rintro e w1 ⟨rfl, h1⟩
    have H1 := Lib.hid h1
    clear h1
    go_wp2_with fail
    go_loopw [5, 6] (fun out m wr => InR w R v l a n X out m wr) (fun _ m _ => (intOf m).toNat)
    case atStart => exact .inl ⟨n, a', [], rfl, Nat.le_refl _, World.ownsRow_nil _ _ _ _, by simp, ha2, H1.out, HX.out⟩
    case round =>
      rcases hrel with ⟨k, p, acc, rfl, hk, ho, hap, hpl, h1, hx⟩ | ⟨e', he, hx, ⟨k, rfl, hk⟩, p, h1⟩
      · have H1 := Lib.hid h1; have HO := Lib.hid ho; have HX := Lib.hid hx
        clear h1 ho hx
        rcases k with _ | k
        · have hx := HX.out
          rw [rdIs] at hx
          rw [show (((0 : Nat) : Int)) = 0 by rfl]
          have HX' := Lib.hid hx
          clear hx
          go_wp2_with fail
          refine (dead_no H1.out.1).mono ?_
          rintro e w2 ⟨rfl, rfl⟩
          go_wp2
          refine leaves_cons (f := 93) (args := #[.pointer (some ⟨R, 0, none⟩), .int .i64 a]) (by simp) (by simp [go_sem]) ?_
          refine (back_rd .returning a H1.out.1).mono ?_
          rintro e u' w'' ⟨rfl, rfl, h4⟩
          rw [if_pos rfl] at h4
          have hx := HX'.out
          subst hx
          exact ⟨_, results_tmp rfl _ _ _, u5, rfl, (Ints.own (own_only HO.out h4.2 hRlt) (by omega)).2, H1.out.trans h4⟩
        · have hI := readI_any H1.out.1 hb hpl hl
          have hif := rdI_facts l hb p
          have hx := HX.out
          rw [rdIs] at hx
          generalize rdI l p = r at *
          obtain ⟨x, p', e'⟩ := r
          simp only at hI hif hx
          have HI := Lib.hid hI
          have HX' := Lib.hid hx
          clear hI hx HX
          have e1 : wrap64 (((k + 1 : Nat) : Int) - 1) = k := by rw [IntWalk.wrap64_in _ (by omega)]; omega
          have hpos : (0 : Int) < ((k + 1 : Nat) : Int) := by omega
          go_wp2_with fail
          refine (dead_no H1.out.1).mono ?_
          rintro e w2 ⟨rfl, rfl⟩
          go_wp2_with fail
          refine HI.out.mono ?_
          rintro e w2 ⟨rfl, h2⟩
          have HO2 := Lib.hid (own_only HO.out h2.2 hRlt)
          have H2 := Lib.hid h2
          have hsz := h2.2.size
          clear h2
          go_wp2_with (at_builtin; go_must (refine app1 rfl _ _ 22 rfl Try.underlying22 eiInt w.heap.size (by rfl) HO2.out (by rfl) rfl (by simp [Value.oneCell']) (by omega) (Nat.le_trans H1.out.2.size hsz) ?_))
          intro v3 w3 ho3 hb3 _
          have HB3 := Lib.hid hb3
          have HO3 := Lib.hid (OwnI.app (by simpa using ho3))
          clear hb3 ho3
          by_cases he : e' = 0
          · subst he
            have hx := HX'.out
            rw [if_neg (by omega)] at hx
            have HX2 := Lib.hid hx
            have hif2 := hif.2 rfl
            clear hx HX' hif
            go_wp2
            go_roundw
            case rel => exact .inl ⟨k, p', acc ++ [x], by go_num, by omega, HO3.out, by simp; omega, hif2.2, RdTo.belowB H.out (RdTo.trans H1.out H2.out) HB3.out, HX2.out⟩
            case measure => simp [intOf] <;> omega
          · have hx := HX'.out
            rw [if_pos he] at hx
            have HX2 := Lib.hid hx
            have HE := Lib.hid he
            clear hx HX' hif he
            go_wp2
            go_roundw
            case rel => exact .inr ⟨e', HE.out, HX2.out.symm, ⟨k, by go_num, by omega⟩, p', RdTo.belowB H.out (RdTo.trans H1.out H2.out) HB3.out⟩
            case measure => simp [intOf] <;> omega
      · have H1 := Lib.hid h1; have HX := Lib.hid hx; have HE := Lib.hid he
        clear h1 hx he
        by_cases hk0 : (0 : Int) < k
        · go_wp2_with fail
          refine (dead_yes H1.out.1 HE.out).mono ?_
          rintro e w2 ⟨rfl, rfl⟩
          go_wp2_with fail
          refine (dead_yes H1.out.1 HE.out).mono ?_
          rintro e w2 ⟨rfl, rfl⟩
          go_wp2
          refine leaves_cons (f := 93) (args := #[.pointer (some ⟨R, 0, none⟩), .int .i64 a]) (by simp) (by simp [go_sem]) ?_
          refine (back_rd .returning a H1.out.1).mono ?_
          rintro e u' w'' ⟨rfl, rfl, h4⟩
          rw [if_neg HE.out] at h4
          have hx := HX.out
          subst hx
          exact ⟨_, results_tmp rfl _ _ _, _, rfl, ints_nil _ _ _ _ (by omega), H1.out.trans h4⟩
        · go_wp2_with fail
          refine (dead_yes H1.out.1 HE.out).mono ?_
          rintro e w2 ⟨rfl, rfl⟩
          go_wp2
          refine leaves_cons (f := 93) (args := #[.pointer (some ⟨R, 0, none⟩), .int .i64 a]) (by simp) (by simp [go_sem]) ?_
          refine (back_rd .returning a H1.out.1).mono ?_
          rintro e u' w'' ⟨rfl, rfl, h4⟩
          rw [if_neg HE.out] at h4
          have hx := HX.out
          subst hx
          exact ⟨_, results_tmp rfl _ _ _, _, rfl, ints_nil _ _ _ _ (by omega), H1.out.trans h4⟩
  · obtain ⟨rfl, rfl⟩ := hfc.1 he
    rw [if_pos he]
    clear hfc
    go_enter_defers Try.func68, Try.ntmps68
    go_wp2_with fail
    refine (dead_no H.out).mono ?_
    rintro e w1 ⟨rfl, rfl⟩
    go_wp2_with fail
    refine HN.out.mono ?_
    rintro e w1 ⟨rfl, h1⟩
    have H1 := Lib.hid h1
    clear h1
    go_wp2_with fail
    go_loopw [5, 6] (fun out m wr => out = .slice none 0 0 ∧ m = .int .i64 0 ∧ wr = w1) (fun _ _ _ => 0)
    case atStart => exact ⟨rfl, rfl, rfl⟩
    case round =>
      obtain ⟨rfl, rfl, rfl⟩ := hrel
      go_wp2_with fail
      refine (dead_yes H1.out.1 he).mono ?_
      rintro e w2 ⟨rfl, rfl⟩
      go_wp2
      refine leaves_cons (f := 93) (args := #[.pointer (some ⟨R, 0, none⟩), .int .i64 a']) (by simp) (by simp [go_sem]) ?_
      refine (back_rd .returning a' H1.out.1).mono ?_
      rintro e u' w'' ⟨rfl, rfl, h4⟩
      rw [if_neg he] at h4
      exact ⟨_, results_tmp rfl _ _ _, _, rfl, ints_nil _ _ _ _ (by omega), H1.out.trans h4⟩
end Go.Proofs.Ytfbodloidogliaa
