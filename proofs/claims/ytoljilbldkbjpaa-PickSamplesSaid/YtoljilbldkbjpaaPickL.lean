/-
  The iterator of pick.parts, walked inside a fence.
-/
import Derived.Test.YtoljilbldkbjpaaPickK
import Derived.RangeFuncCalls
import Derived.RangeFuncLeaves
import Derived.RangeFuncRecord
import Derived.RangeFuncIn
import Derived.Shelf.RegionOpen
import Derived.OwnWalkIn
import Derived.TacticsInMore
import Derived.LoopNIn
import Derived.LoopIn
namespace Go.Proofs.Ytoljilbldkbjpaa
open Go.RowKit

theorem appIn1 {F : Fence} {nn : Nat} {P : Program} {ops : Array Oper} {rest : List Oper} {o : Oper} {a : Act} {Q : Exit → Act → World → Prop} (hgd : o.guard = none) (s x : Operand) (t : TypeId)
    (ho : o.op = .call { callee := .builtin .append, args := #[s, x], argTypes := #[t, t] })
    {e : TypeId} {z : Value} {size bytes : Nat} (ht : P.underlying t = some (.slice e)) (hE : EI P e z size bytes)
    (base : Nat) {v : Value} {n : Nat} {xs : List Value} {W : World} {cs : Array Value} {T : TypeId} {C : Nat} (hs : a.eval s = v) (hown : W.ownsRow base e size v n xs)
    (hx : a.eval x = .slice (some ⟨W.heap.size, 0, none⟩) 1 C) (hcs : cs.size = size) (h1 : ∀ u ∈ cs.toList, u.oneCell' = true)
    (hbytes : (n + 1) * bytes ≤ 140737488355328) (hbase : base ≤ W.heap.size)
    (h : ∀ v' w', w'.ownsRow base e size v' (n + 1) (xs ++ cs.toList) → Below base W w' → W.grownBy w' v.ownBlock → wpListIn F nn P ops Q rest (a.put o.dst v') w') :
    wpListIn F nn P ops Q (o :: rest) a (W.alloc (.cells cs T)) := by
  obtain ⟨i, hi, hz, hsize, hby, hzs, hsz, hbp⟩ := hE
  have h63 : n + 1 ≤ 140737488355328 := Nat.le_trans (Nat.le_mul_of_pos_right _ hbp) hbytes
  refine wpListIn_append_own _ hgd s x t ho base e i z size bytes ht hi hz hsize hby hzs hsz v n xs hs (hown.alloc _) ⟨W.heap.size, 0, none⟩ 1 C cs.toList hx (by simp [hcs]) ?_ h1 (by unfold maxLen; omega) hbytes (by simp; omega) ?_
  · intro j u hu
    have hadd : (⟨W.heap.size, 0, none⟩ : Addr).add j = ⟨W.heap.size, j, none⟩ := by unfold Addr.add; split <;> simp_all
    rw [hadd]
    have hb := heap_alloc_new W (.cells cs T)
    simp only [World.cell?, hb]
    simpa using hu
  · intro v' w' hown' hg _
    refine h v' w' hown' ?_ ?_
    · exact ((Below.refl _ _).alloc hbase _).grown hg (by simp; omega) fun k hk => (hown.lt k hk).1
    · exact ⟨hg.os, hg.tape, hg.output, by have := hg.size; simp at this; omega, fun k hk hne => (hg.block k (by simp; omega) hne).trans (Below.heap_alloc W _ k hk)⟩

theorem mkownIn {F : Fence} {nn : Nat} {P : Program} {w : World} {ops : Array Oper} {rest : List Oper} {o : Oper} {a : Act} {Q : Exit → Act → World → Prop}
    (hg : o.guard = none) (l c : Operand) (t : TypeId) (hop : o.op = Op.makeSlice t l c) {e : TypeId} {z : Value} {size bytes : Nat} (ht : P.underlying t = some (.slice e)) (hE : EI P e z size bytes)
    (base : Nat) (n : Nat) {kl kc : IntKind} {C : Int} (hl : a.eval l = .int kl 0) (hc : a.eval c = .int kc C) (hC : C = (n : Int)) (b2 : bytes * n ≤ 140737488355328) (hbase : base ≤ w.heap.size)
    (hK : ∀ w', w'.ownsRow base e size (.slice (some ⟨w.heap.size, 0, none⟩) 0 n) 0 [] → Below base w w' → w.grownBy w' none → wpListIn F nn P ops Q rest (a.put o.dst (.slice (some ⟨w.heap.size, 0, none⟩) 0 n)) w') :
    wpListIn F nn P ops Q (o :: rest) a w := by
  obtain ⟨i, hi, hz, hsize, hby, hzs, hsz, hbp⟩ := hE
  have h63 : n ≤ 140737488355328 := Nat.le_trans (Nat.le_mul_of_pos_left _ hbp) b2
  exact wpListIn_make_own w hg l c t hop base e i z size ht hi hz hsize kl kc C n hl hc hC (by rw [hby]; omega) (by unfold maxLen; omega) hbase fun w' h1 h2 => hK w' h1 ((Below.refl _ _).grown h2 hbase (by simp)) h2

/-- What an iterator may do between two rounds: one old block of its own is written, new ones are made. -/
def OwnStep (ba N : Nat) (W W' : World) : Prop := Below ba W W' ∧ ∀ q, q ≠ ba → q < N → W'.heap[q]? = W.heap[q]?
/-- What a round that goes on does: the loop's record is written, new blocks are made. -/
def RoundStep (lk : Nat) (W W' : World) : Prop := W.heap.size ≤ W'.heap.size ∧ ∀ q, q ≠ lk → q < W.heap.size → W'.heap[q]? = W.heap[q]?

theorem OwnStep.trans {ba N : Nat} {A B C : World} (h : OwnStep ba N A B) (k : OwnStep ba N B C) : OwnStep ba N A C :=
  ⟨below_tr h.1 k.1, fun q h1 h2 => (k.2 q h1 h2).trans (h.2 q h1 h2)⟩
theorem OwnStep.below {ba N : Nat} {A B : World} (h : Below N A B) (hb : ba ≤ N) : OwnStep ba N A B := ⟨h.mono hb, fun q _ h2 => h.block q h2⟩
theorem OwnStep.set {ba N o : Nat} {A : World} (v : Value) : OwnStep ba N A (A.setCell ⟨ba, o, none⟩ v) :=
  ⟨(Below.refl _ _).setCell (by simp) _, fun q h _ => Below.heap_setCell _ _ _ _ h⟩

theorem Ints.keep {k : IntKind} {w w' : World} {v : Value} {l : List Int} (h : Ints k w v l) (hk : ∀ q, q < w.heap.size → w'.heap[q]? = w.heap[q]?) (hs : w.heap.size ≤ w'.heap.size) : Ints k w' v l := by
  obtain ⟨a, c, e, h1, h2, h3, h4⟩ := h
  refine ⟨a, c, e, h1, h2, h3, fun i x hi => ?_⟩
  obtain ⟨b, o, e, hb, hc⟩ := h4 i x hi
  exact ⟨b, o, e, Nat.lt_of_lt_of_le hb hs, (cell_of_heapL (hk b hb)).trans hc⟩
where cell_of_heapL {w w' : World} {b o : Nat} (h : w'.heap[b]? = w.heap[b]?) : w'.cell? ⟨b, o, none⟩ = w.cell? ⟨b, o, none⟩ := World.cell?_of_block (a := ⟨b, o, none⟩) h

/-- The iterator's own: its four boxes, the place in the last one; what the slice of draws reads. -/
structure PartsAt (w0 : World) (lk ba N : Nat) (W wr : World) (A : Int) : Prop where
  size : N ≤ wr.heap.size
  same : ∀ q, q ≠ ba → q ≠ lk → q < N → wr.heap[q]? = W.heap[q]?
  at_ : wr.cell? ⟨ba, 0, none⟩ = some (.int .i64 A)
  free : wr.frozen? ⟨ba, 0, none⟩ = false

theorem PartsAt.below {w0 : World} {lk ba N : Nat} {W wr w' : World} {A : Int} (h : PartsAt w0 lk ba N W wr A) (hb : ba < N) (B : Below N wr w') : PartsAt w0 lk ba N W w' A :=
  ⟨Nat.le_trans h.size B.size, fun q h1 h2 h3 => (B.block q h3).trans (h.same q h1 h2 h3), (B.cell (p := ⟨ba, 0, none⟩) hb).trans h.at_, (B.frozen (p := ⟨ba, 0, none⟩) hb).trans h.free⟩
theorem PartsAt.set {w0 : World} {lk ba N : Nat} {W wr : World} {A : Int} (h : PartsAt w0 lk ba N W wr A) (A' : Int) : PartsAt w0 lk ba N W (wr.setCell ⟨ba, 0, none⟩ (.int .i64 A')) A' :=
  ⟨by simpa using h.size, fun q h1 h2 h3 => (Below.heap_setCell _ _ _ _ h1).trans (h.same q h1 h2 h3), World.cell?_setCell_same _ _ _ h.at_, by simpa using h.free⟩
theorem PartsAt.round {w0 : World} {lk ba N : Nat} {W wr w' : World} {A : Int} (h : PartsAt w0 lk ba N W wr A) (hb : ba < N) (hne : ba ≠ lk) (R : RoundStep lk wr w') : PartsAt w0 lk ba N W w' A := by
  have hlt : ba < wr.heap.size := Nat.lt_of_lt_of_le hb h.size
  refine ⟨Nat.le_trans h.size R.1, fun q h1 h2 h3 => (R.2 q h2 (Nat.lt_of_lt_of_le h3 h.size)).trans (h.same q h1 h2 h3), (Ints.keep.cell_of_heapL (R.2 ba hne hlt)).trans h.at_, ?_⟩
  have := R.2 ba hne hlt
  simpa only [World.frozen?, this] using h.free

set_option maxRecDepth 100000 in
set_option maxHeartbeats 4000000 in
/-- **The iterator of pick.parts**: each row that is drawn is handed to a round, till one is left. -/
theorem parts1_in (n lk bt bd bl ba N : Nat) (vl : Value) (l : List Int) (D T : Nat) (A0 : Int) (w0 W : World) (J : World → Prop) (Jx : Int × Int → List Int → World → Prop)
    (hn : 1 ≤ n) (hl : Ints .u64 w0 vl l) (hu : AllU l) (d1 : 1 ≤ D) (d8 : D ≤ 8) (t1 : 1 ≤ T) (t64 : T ≤ 64) (hA0 : Ok64 A0)
    (hN : W.heap.size = N) (hw0 : w0.heap.size ≤ ba) (hw1 : w0.heap.size ≤ lk) (hbt : bt < N ∧ bt ≠ ba ∧ bt ≠ lk) (hbd : bd < N ∧ bd ≠ ba ∧ bd ≠ lk) (hbl : bl < N ∧ bl ≠ ba ∧ bl ≠ lk) (hba : ba < N ∧ ba ≠ lk)
    (hwW : ∀ q, q < w0.heap.size → W.heap[q]? = w0.heap[q]?)
    (ct : W.cell? ⟨bt, 0, none⟩ = some (.int .i64 (T : Int))) (cd : W.cell? ⟨bd, 0, none⟩ = some (.int .i64 (D : Int))) (cl : W.cell? ⟨bl, 0, none⟩ = some vl) (ca : W.cell? ⟨ba, 0, none⟩ = some (.int .i64 A0)) (fa : W.frozen? ⟨ba, 0, none⟩ = false)
    (hst : ∀ W1 W2, J W1 → OwnStep ba N W1 W2 → J W2)
    (hYr : ∀ (W1 : World) (c : Value) (C : List Int) (A : Int), J W1 → N ≤ W1.heap.size → Ints .i64 W1 c (C ++ [A]) → Fresh N c → C.length = D → YieldAt Fence.wide (n - 1) Try.prog lk #[c, .int .i64 0] W1 fun e W' =>
      (e = .returned (.bool true) ∧ (C.any fun x => x != 0) = false ∧ J W' ∧ RoundStep lk W1 W') ∨ (e = .returned (.bool false) ∧ (C.any fun x => x != 0) = true ∧ Jx (A, 0) C W'))
    (hYe : ∀ (W1 : World) (E : Int), J W1 → N ≤ W1.heap.size → E ≠ 0 → YieldAt Fence.wide (n - 1) Try.prog lk #[.slice none 0 0, .int .i64 E] W1 fun e W' => e = .returned (.bool false) ∧ Jx (0, E) [] W')
    (hJ : J W) :
    CallsIn Fence.wide n Try.prog 71 #[.func (.yield lk) #[] #[], .pointer (some ⟨bt, 0, none⟩), .pointer (some ⟨bd, 0, none⟩), .pointer (some ⟨bl, 0, none⟩), .pointer (some ⟨ba, 0, none⟩)] W fun e W' =>
      (∃ v, e = .returned v) ∧ Jx (coefL l T D T A0).2 (coefL l T D T A0).1 W' := by
  have HX := Lib.hid hl
  obtain ⟨ax, cx, rfl, _⟩ := hl
  have hl3 : l.length ≤ 140737488351232 := by obtain ⟨_, _, e, _, _, h3, _⟩ := HX.out; exact h3
  have HRG := Lib.hid (fun A W (hW : Ints .u64 W (.slice ax l.length cx) l) (hA : Ok64 A) => range_any (.slice ax l.length cx) l A (-4) 4 T W hW hu hA (by unfold Ok64; omega) (by unfold Ok64; omega))
  have HRI := Lib.hid (fun A (hh : (rangeB l A (-4) 4 T).2.2 = 0) => rangeB_in hu hh)
  have HOK := Lib.hid (show ∀ A : Int, 0 ≤ A → A ≤ l.length → Ok64 A from fun A h1 h2 => by unfold Ok64; omega)
  have HST := Lib.hid hst
  have HYR := Lib.hid hYr
  have HYE := Lib.hid hYe
  have HWW := Lib.hid hwW
  obtain ⟨CV, hCV⟩ : ∃ X, coefL l T D T A0 = X := ⟨_, rfl⟩
  have HV := Lib.hid hCV.symm
  rw [hCV]
  obtain ⟨m, hm⟩ : ∃ m, l.length = m := ⟨_, rfl⟩
  rw [hm] at HX HRG HRI HOK hl3 cl
  have HP0 := Lib.hid (show PartsAt w0 lk ba N W W A0 from ⟨by omega, fun _ _ _ _ => rfl, ca, fa⟩)
  have HIN := Lib.hid (show ∀ wr A, PartsAt w0 lk ba N W wr A → Ints .u64 wr (.slice ax m cx) l from fun wr A hp => HX.out.keep (fun q hq => (hp.same q (by omega) (by omega) (by omega)).trans (HWW.out q hq)) (by have := hp.size; omega))
  have HCT := Lib.hid (show ∀ wr A, PartsAt w0 lk ba N W wr A → wr.cell? ⟨bt, 0, none⟩ = some (.int .i64 (T : Int)) from fun wr A hp => (Ints.keep.cell_of_heapL (hp.same bt hbt.2.1 hbt.2.2 hbt.1)).trans ct)
  have HCD := Lib.hid (show ∀ wr A, PartsAt w0 lk ba N W wr A → wr.cell? ⟨bd, 0, none⟩ = some (.int .i64 (D : Int)) from fun wr A hp => (Ints.keep.cell_of_heapL (hp.same bd hbd.2.1 hbd.2.2 hbd.1)).trans cd)
  have HCL0 := Lib.hid (show ∀ wr A, PartsAt w0 lk ba N W wr A → wr.cell? ⟨bl, 0, none⟩ = some (.slice ax m cx) from fun wr A hp => (Ints.keep.cell_of_heapL (hp.same bl hbl.2.1 hbl.2.2 hbl.1)).trans cl)
  have HJ0 := Lib.hid hJ
  have HO := Lib.hid hA0
  obtain ⟨ba1, ba2⟩ := hba
  have i8 : (D : Int) ≤ 8 := by omega
  have i1D : 1 ≤ (D : Int) := by omega
  have i64T : (T : Int) ≤ 64 := by omega
  clear hu hst hYr hYe hwW hCV hm hJ ca fa cd cl hA0 hbd hbl
  refine callsIn_of_wp Try.func71 rfl trivial ?_ rfl
  simp only [Try.ntmps71, List.size_toArray, List.length_cons, List.length_nil, Nat.reduceAdd, Nat.reduceSub, Array.replicate_succ, Array.replicate_zero, List.push_toArray, List.append_toArray, List.nil_append, List.cons_append]
  gi_wp2
  gi_loopw [6, 7, 8, 9, 11] (fun _ _ _ _ i wr => ∃ (j : Nat) (A : Int), i = .int .i64 j ∧ j ≤ T ∧ CV = coefL l T D (T - j) A ∧ Ok64 A ∧ J wr ∧ PartsAt w0 lk ba N W wr A) (fun _ _ _ _ i _ => T - (intOf i).toNat)
  case atStart => exact ⟨0, A0, rfl, by omega, HV.out, HO.out, HJ0.out, HP0.out⟩
  case round =>
    obtain ⟨j, A, rfl, hj, hcv, hA, hJr, hP⟩ := hrel
    have HCV := Lib.hid hcv
    have HAO := Lib.hid hA
    have HJR := Lib.hid hJr
    have HPR := Lib.hid hP
    have i1 : (0 : Int) ≤ (j : Int) := by omega
    clear hcv hA hJr hP
    by_cases hlt : j < T
    · have i2 : (j : Int) < (T : Int) := by omega
      have hfu : T - j = (T - (j + 1)) + 1 := by omega
      have HFE := Lib.hid (show ¬ (partL l T D A).2.2 = 0 → CV = ([], 0, (partL l T D A).2.2) from fun hh => by rw [HCV.out, hfu, coefL_fell hh])
      have HSO := Lib.hid (show (partL l T D A).2.2 = 0 → (partL l T D A).1.any (fun x => x != 0) = true → CV = ((partL l T D A).1, (partL l T D A).2.1, 0) from fun hh h2 => by rw [HCV.out, hfu, coefL_some hh h2])
      have HON := Lib.hid (show (partL l T D A).2.2 = 0 → (partL l T D A).1.any (fun x => x != 0) = false → CV = coefL l T D (T - (j + 1)) (partL l T D A).2.1 from fun hh h2 => by rw [HCV.out, hfu, coefL_on hh h2])
      have c1 := HCD.out _ _ HPR.out
      clear hfu
      gi_wp2_with (gi_at_make; go_must (refine mkownIn rfl _ _ 24 rfl Try.underlying24 eiInt N (D + 1) (by rfl) (by rfl) (by omega) (by omega) HPR.out.size ?_))
      intro w2 hown hb2 _
      have HOW0 := Lib.hid hown
      have HP2 := Lib.hid (HPR.out.below ba1 hb2)
      have HJ2 := Lib.hid (HST.out _ _ HJR.out (OwnStep.below hb2 (by omega)))
      have c2 := HCD.out _ _ HP2.out
      clear hown hb2
      gi_wp2
      gi_loopw [6, 7, 8, 9, 17] (fun c _ _ _ i wi => ∃ (k : Nat) (C : List Int) (A2 : Int), i = .int .i64 k ∧ k ≤ D ∧ C.length = k ∧ partL l T D A = (C ++ (partL l T (D - k) A2).1, (partL l T (D - k) A2).2) ∧ Ok64 A2 ∧ J wi ∧ PartsAt w0 lk ba N W wi A2 ∧
        wi.ownsRow N 3 1 c k (C.map (.int .i64))) (fun _ _ _ _ i _ => D - (intOf i).toNat)
      case atStart => exact ⟨0, [], A, rfl, by omega, rfl, by simp, HAO.out, HJ2.out, HP2.out, HOW0.out⟩
      case round =>
        obtain ⟨k, C, A2, rfl, hk, hcl, hpa, hA2, hJi, hPi, hown⟩ := hrel
        have HCL := Lib.hid hcl
        have HPA := Lib.hid hpa
        have HA2 := Lib.hid hA2
        have HOWR := Lib.hid hown
        have HJI := Lib.hid hJi
        have HPI := Lib.hid hPi
        have j1 : (0 : Int) ≤ (k : Int) := by omega
        clear hcl hpa hA2 hown hJi hPi
        by_cases hlt2 : k < D
        · have j2 : (k : Int) < (D : Int) := by omega
          have hgl := fun hh => partL_glue hlt2 hh HPA.out
          have hfe := fun hh => partL_fell hlt2 hh HPA.out
          have hri := HRI.out A2
          have hrg := fun W hW => HRG.out A2 W hW HA2.out
          obtain ⟨p, hp⟩ : ∃ X, (rangeB l A2 (-4) 4 T).1 = X := ⟨_, rfl⟩
          obtain ⟨A3, hA3⟩ : ∃ X, (rangeB l A2 (-4) 4 T).2.1 = X := ⟨_, rfl⟩
          obtain ⟨E, hE⟩ : ∃ X, (rangeB l A2 (-4) 4 T).2.2 = X := ⟨_, rfl⟩
          rw [hp, hA3, hE] at hri hrg
          rw [hp, hA3, hE] at hgl
          rw [hE] at hfe
          have HGL := Lib.hid hgl
          have HFL := Lib.hid hfe
          have HRJ := Lib.hid hri
          have HRH := Lib.hid hrg
          have c3 := HCL0.out _ _ HPI.out
          have c4 := HCT.out _ _ HPI.out
          have c5 := HPI.out.at_
          clear hgl hfe hri hrg hp hA3 hE
          by_cases hE0 : E = 0
          · subst hE0
            obtain ⟨⟨p0, p1⟩, q1, q2⟩ := HRJ.out rfl
            have HA3 := Lib.hid (HOK.out A3 q1 q2)
            have HG2 := Lib.hid (HGL.out rfl)
            have HC2 := Lib.hid (show (C ++ [p]).length = k + 1 by rw [List.length_append, HCL.out]; rfl)
            gi_wp2_with (first | (refine ⟨trivial, ?_⟩; gi_at_call 72; refine (callsIn_wide.2 (HRH.out _ (HIN.out _ _ HPI.out))).mono ?_; rintro e w4 ⟨rfl, b4⟩; have HJ4 := Lib.hid (HST.out _ _ HJI.out (OwnStep.below (b4.mono HPI.out.size) (by omega))); have HP4 := Lib.hid (HPI.out.below ba1 (b4.mono HPI.out.size)); have OWN4 := Lib.hid (own_keep HOWR.out fun g _ hgl => b4.block g hgl); have c6 := HP4.out.at_; have f6 := HP4.out.free; clear b4) | (gi_at_builtin; go_must (refine appIn1 rfl _ _ 24 rfl Try.underlying24 eiInt N (by rfl) OWN4.out (by rfl) rfl (by simp [Value.oneCell']) (by omega) HP4.out.size ?_; intro v6 w6 hown6 hb6 _; have OWN6 := Lib.hid hown6; have HP6 := Lib.hid (HP4.out.below ba1 hb6); have HJ6 := Lib.hid (HST.out _ _ HJ4.out (OwnStep.below hb6 (by omega))); have c7 := HP6.out.at_; have f7 := HP6.out.free; clear hown6 hb6)))
            go_roundw
            case rel => exact ⟨k + 1, C ++ [p], A3, by go_num, by omega, HC2.out, HG2.out, HA3.out, HST.out _ _ HJ6.out (OwnStep.set _), HP6.out.set A3, by rw [List.map_append]; exact ownsRow_setCell_below OWN6.out ba1 _⟩
            case measure => simp [intOf] <;> omega
          · have e1 : (E != 0) = true := by simp [hE0]
            have HR := Lib.hid (show CV = ([], 0, E) by
              have h1 := HFL.out hE0
              rw [← h1]
              exact HFE.out (by rw [h1]; exact hE0))
            gi_wp2_with (refine ⟨trivial, ?_⟩; gi_at_call 72; refine (callsIn_wide.2 (HRH.out _ (HIN.out _ _ HPI.out))).mono ?_; rintro e w4 ⟨rfl, b4⟩; have HJ4 := Lib.hid (HST.out _ _ HJI.out (OwnStep.below (b4.mono HPI.out.size) (by omega))); have HP4 := Lib.hid (HPI.out.below ba1 (b4.mono HPI.out.size)); clear b4; obtain ⟨fn, tmps, assign, body, hy, hR⟩ := HYE.out w4 E HJ4.out HP4.out.size hE0)
            refine hR.mono ?_
            rintro e W2 ⟨rfl, hx⟩
            gi_wp2
            refine bodyPost_ret (results_none rfl _ _ _) rfl ?_
            exact ⟨⟨_, rfl⟩, by rw [HR.out]; exact hx⟩
        · obtain rfl : k = D := by omega
          have hp := HPA.out
          rw [Nat.sub_self] at hp
          simp only [partL, List.append_nil] at hp
          have HP2 := Lib.hid hp
          have c5 := HPI.out.at_
          clear hp
          gi_wp2_with (gi_at_builtin; go_must (refine appIn1 rfl _ _ 24 rfl Try.underlying24 eiInt N (by rfl) HOWR.out (by rfl) rfl (by simp [Value.oneCell']) (by omega) HPI.out.size ?_; intro v6 w6 hown6 hb6 _; have OWN6 := Lib.hid hown6; have HP6 := Lib.hid (HPI.out.below ba1 hb6); have HJ6 := Lib.hid (HST.out _ _ HJI.out (OwnStep.below hb6 (by omega))); clear hown6 hb6; obtain ⟨fn, tmps, assign, body, hy, hR⟩ := HYR.out w6 v6 C A2 HJ6.out HP6.out.size ((Ints.own (l := C ++ [A2]) (by rw [List.map_append]; exact OWN6.out) (by rw [List.length_append, HCL.out]; simp; omega)).2) (Fresh.own OWN6.out) HCL.out))
          refine hR.mono ?_
          rintro e W2 (⟨rfl, hz, hJ3, hr3⟩ | ⟨rfl, hz, hx⟩)
          · have HR := Lib.hid (show CV = coefL l T k (T - (j + 1)) A2 by
              have := HON.out (by rw [HP2.out]) (by rw [HP2.out]; exact hz)
              rw [HP2.out] at this
              exact this)
            have HP3 := Lib.hid (HP6.out.round ba1 ba2 hr3)
            gi_wp2
            go_roundw
            case rel => exact ⟨j + 1, A2, by go_num, by omega, HR.out, HA2.out, hJ3, HP3.out⟩
            case measure => simp [intOf] <;> omega
          · have HR := Lib.hid (show CV = (C, A2, 0) by
              have := HSO.out (by rw [HP2.out]) (by rw [HP2.out]; exact hz)
              rw [HP2.out] at this
              exact this)
            gi_wp2
            refine bodyPost_ret (results_none rfl _ _ _) rfl ?_
            exact ⟨⟨_, rfl⟩, by rw [HR.out]; exact hx⟩
    · obtain rfl : j = T := by omega
      have HR := Lib.hid (show CV = ([], 0, 61) by rw [HCV.out, Nat.sub_self]; rfl)
      obtain ⟨fn, tmps, assign, body, hy, hR⟩ := HYE.out wr 61 HJR.out HPR.out.size (by decide)
      gi_wp2
      refine hR.mono ?_
      rintro e W2 ⟨rfl, hx⟩
      gi_wp2
      go_end0
      exact ⟨⟨_, rfl⟩, by rw [HR.out]; exact hx⟩
end Go.Proofs.Ytoljilbldkbjpaa
