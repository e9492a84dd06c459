/-
  WoodE: Walk of wood.nodes.
-/
import Derived.Test.YtgobbecpnjelmaaGreatJ2b
import Derived.Test.YtgobbecpnjelmaaGreatJ0b
import Derived.Test.YtgobbecpnjelmaaGreatJ0c
namespace Go.Proofs.YtgobbecpnjelmaaGreat
open Go.RowKit

def rdMeas (R L : Nat) (w : World) : Nat := if intOf ((w.cell? ⟨R, 2, none⟩).getD (.int .i64 1)) = 0 then L + 1 - (intOf ((w.cell? ⟨R, 1, none⟩).getD (.int .i64 0))).toNat else 0

theorem rdMeas_ok {w : World} {R L a : Nat} {v : Value} {l : List Int} (h : Rd w R v l a 0) : rdMeas R L w = L + 1 - a := by
 obtain ⟨_, h1, h2, _⟩ := h.cells
 unfold rdMeas
 rw [h1, h2]
 rfl

theorem rdMeas_bad {w : World} {R L a : Nat} {v : Value} {l : List Int} {e : Int} (h : Rd w R v l a e) (he : e ≠ 0) : rdMeas R L w = 0 := by
 obtain ⟨_, _, h2, _⟩ := h.cells
 unfold rdMeas
 rw [h2]
 exact if_neg he

theorem own_shapeN {w : World} {base e size n : Nat} {v : Value} {xs : List Value} (h : w.ownsRow base e size v n xs) : ∃ a c, v = .slice a n c := by
 rcases h.2 with ⟨rfl, rfl⟩ | ⟨g, cap, _, rfl, _⟩
 ·exact ⟨_, _, rfl⟩
 ·exact ⟨_, _, rfl⟩

theorem res_none {RES : Option BT × Nat × Int} {a' : Nat} {e' : Int} (h : (∀ p e, RES = (none, p, e) → ((none, a', e') : Option (List NodeP) × Nat × Int) = (none, p, e)) ∧ (∀ T p e, RES = (some T, p, e) → ((none, a', e') : Option (List NodeP) × Nat × Int) = (some (T.raw 0), p, 0))) : RES = (none, a', e') := by
 rcases RES with ⟨_ | T, p, e⟩
 ·have := h.1 p e rfl
  injection this with _ this
  injection this with h1 h2
  rw [h1, h2]
 ·have := h.2 T p e rfl
  injection this with this
  cases this

theorem res_some {RES : Option BT × Nat × Int} {a' : Nat} {L : List NodeP} (h : (∀ p e, RES = (none, p, e) → ((some L, a', 0) : Option (List NodeP) × Nat × Int) = (none, p, e)) ∧ (∀ T p e, RES = (some T, p, e) → ((some L, a', 0) : Option (List NodeP) × Nat × Int) = (some (T.raw 0), p, 0))) : ∃ T e, RES = (some T, a', e) ∧ L = T.raw 0 := by
 rcases RES with ⟨_ | T, p, e⟩
 ·have := h.1 p e rfl
  injection this with this
  cases this
 ·have := h.2 T p e rfl
  injection this with h1 this
  injection this with h2 h3
  injection h1 with h1
  exact ⟨T, e, by rw [h2], h1⟩

theorem NodeSt.to {w U : World} {K R : Nat} {v : Value} {l : List Int} {a : Nat} {e : Int} {wv ov : Value} {st : List (Nat × Int)} {ps : List (NodeP × Value)} (S : NodeSt w U K R v l a e wv ov st ps) : RdTo w R v l U a e := ⟨S.rd, S.gr⟩

theorem NodeSt.grow {w U U' : World} {K R : Nat} {v : Value} {l : List Int} {a : Nat} {e : Int} {wv ov : Value} {st : List (Nat × Int)} {ps : List (NodeP × Value)} (S : NodeSt w U K R v l a e wv ov st ps) {r : Option Nat} (hg : U.grownBy U' r) (hr : ∀ g, r = some g → K ≤ g) : NodeSt w U' K R v l a e wv ov st ps := by
 have hR := S.hR
 have hK := S.hK
 have keep : ∀ b, b < K → U'.heap[b]? = U.heap[b]? := fun b hb => hg.block b (by omega) (fun e => by have := hr b e.symm; omega)
 exact S.over (fun b hb _ => keep b hb) hg.size ⟨hg.os.trans S.gr.os, hg.tape.trans S.gr.tape, hg.output.trans S.gr.output, Nat.le_trans S.gr.size hg.size, fun b hb hn => (keep b (by omega)).trans (S.gr.block b hb hn)⟩ ((keep R (by omega)).trans S.row)

theorem newIw (z : Int) (W : World) (T : TypeId) (b : Nat) (hb : b = W.heap.size) : Ints .i64 (W.alloc (.cells #[.int .i64 z] T)) (.slice (some ⟨b, 0, none⟩) 1 1) [z] :=
 Ints.new' .i64 W T #[.int .i64 z] [z] b 1 1 hb rfl rfl (by omega) (by omega)

theorem acell {W : World} {b o : Nat} {u : Value} (x : Obj) (h : W.cell? ⟨b, o, none⟩ = some u) (hb : b < W.heap.size) : (W.alloc x).cell? ⟨b, o, none⟩ = some u := (World.cell?_of_block (a := ⟨b, o, none⟩) (Below.heap_alloc W x b hb)).trans h

theorem afroz {W : World} {b o : Nat} (x : Obj) (h : W.frozen? ⟨b, o, none⟩ = false) (hb : b < W.heap.size) : (W.alloc x).frozen? ⟨b, o, none⟩ = false := (World.frozen?_of_block (a := ⟨b, o, none⟩) (Below.heap_alloc W x b hb)).trans h

theorem new4 (i1 i2 i3 i4 : Int) (W : World) (T : TypeId) (b : Nat) (hb : b = W.heap.size) : ∀ (j : Nat) (u : Value), [Value.int .i64 i1, .int .i64 i2, .int .i64 i3, .int .i64 i4][j]? = some u → ∃ b' o, (some ⟨b, 0, none⟩ : Option Addr) = some ⟨b', o, none⟩ ∧ (W.alloc (.cells #[.int .i64 i1, .int .i64 i2, .int .i64 i3, .int .i64 i4] T)).cell? ⟨b', o + j, none⟩ = some u := by
 intro j u hu
 subst hb
 refine ⟨_, _, rfl, ?_⟩
 have hb := heap_alloc_new W (.cells #[.int .i64 i1, .int .i64 i2, .int .i64 i3, .int .i64 i4] T)
 rw [Nat.zero_add]
 simp only [World.cell?, hb]
 simpa using hu

theorem rdXs_mono {l : List Int} (hb : AllB l) {a : Nat} {e : Int} (ha : a ≤ l.length) {n : Nat} {c : List Int} {p1 : Nat} {e1 x : Int} {p2 : Nat} (h1 : rdXs l n a e = (c, p1, e1)) (h2 : rdI' l p1 e1 = (x, p2, 0)) : e = 0 ∧ a ≤ p2 := by
 obtain ⟨g1, g2⟩ := gotI hb (show (rdI' l p1 e1).2.2 = 0 by rw [h2])
 subst g1
 obtain ⟨k1, k2⟩ := rdXs_got hb ha (e := e) n (by rw [h1])
 rw [h2] at g2
 rw [h1] at k2
 exact ⟨k1, Nat.le_trans k2.1 g2.1⟩

theorem cnt_bd' (T : BT) (h : T.hgt < 7) : T.cnt ≤ 127 := by have := BT.cnt_bd T 7 h; omega

theorem fix_step {A B : List NodeP} {k : Nat} {m n : NodeP} (hA : A[k]? = some m) (hB : B[k]? = some n) (hmn : { m with size := n.size } = n) : (A.take (k + 1) ++ B.drop (k + 1)).modify k (fun x => { x with size := n.size }) = A.take k ++ B.drop k := by
 have hkA := (List.getElem?_eq_some_iff.1 hA).1
 have hkB := (List.getElem?_eq_some_iff.1 hB).1
 have h1 : A.take (k + 1) = A.take k ++ [m] := by rw [List.take_add_one, hA]; rfl
 have h2 : B.drop k = n :: B.drop (k + 1) := by rw [List.drop_eq_getElem_cons hkB, (List.getElem?_eq_some_iff.1 hB).2]
 rw [h1, h2, List.append_assoc, List.singleton_append, modify_mid (by rw [List.length_take]; omega), hmn]

theorem fix_same {A B : List NodeP} {k : Nat} {n : NodeP} (hA : A[k]? = some n) (hB : B[k]? = some n) : A.take (k + 1) ++ B.drop (k + 1) = A.take k ++ B.drop k := by
 have hkB := (List.getElem?_eq_some_iff.1 hB).1
 have h1 : A.take (k + 1) = A.take k ++ [n] := by rw [List.take_add_one, hA]; rfl
 have h2 : B.drop k = n :: B.drop (k + 1) := by rw [List.drop_eq_getElem_cons hkB, (List.getElem?_eq_some_iff.1 hB).2]
 rw [h1, h2, List.append_assoc, List.singleton_append]

theorem fix_at {A B : List NodeP} {k j : Nat} {x : NodeP} (hk : k ≤ A.length) (hj : k ≤ j) (h : B[j]? = some x) : (A.take k ++ B.drop k)[j]? = some x := by
 rw [List.getElem?_append_right (by rw [List.length_take]; omega), List.length_take, Nat.min_eq_left hk, List.getElem?_drop, show k + (j - k) = j by omega]
 exact h

theorem map_at {qs : List (NodeP × Value)} {j : Nat} {n : NodeP} (h : (qs.map (·.1))[j]? = some n) : ∃ q, qs[j]? = some q ∧ q.1 = n := by
 rw [List.getElem?_map] at h
 cases hq : qs[j]? with
 | none => rw [hq] at h; cases h
 | some q => rw [hq] at h; exact ⟨q, rfl, by simpa using h⟩

theorem NodeSt.nodes {w U : World} {K R : Nat} {v : Value} {l : List Int} {a : Nat} {e : Int} {wv ov : Value} {st : List (Nat × Int)} {ps : List (NodeP × Value)} (S : NodeSt w U K R v l a e wv ov st ps) (hn : ps.length ≤ 100000) : NodesF w.heap.size U ov (ps.map (·.1)) := fun W hW hz =>
 own_nodes (own_at S.ou fun g hg => hW g (S.ou.lt g hg).1 (S.ou.lt g hg).2) rfl hn fun p hp => ints_kept' (S.cf p hp).1 (fun h g hgo => by
  obtain ⟨h1, h2, _⟩ := (S.cf p hp).2 h g hgo
  exact hW g h1 (Nat.lt_of_lt_of_le h2 S.hK.2)) hz

/-- What wood.nodes gives back. -/
def NodesTo (w : World) (R : Nat) (v : Value) (l : List Int) (r : Option BT × Nat × Int) (e : Ending) (w' : World) : Prop :=
 ∃ a n c, e = .returned (.slice a n c) ∧ RdTo w R v l w' r.2.1 r.2.2 ∧ (∀ T, r.1 = some T → NodesF w.heap.size w' (.slice a n c) (T.flat 0)) ∧ (r.1 = none → a = none ∧ n = 0 ∧ c = 0)

theorem NodesTo.none {w w' : World} {R : Nat} {v : Value} {l : List Int} {a' : Nat} {e' : Int} (h : RdTo w R v l w' a' e') : NodesTo w R v l (Option.none, a', e') (.returned (.slice Option.none 0 0)) w' :=
 ⟨_, _, _, rfl, h, (fun T hT => by cases hT), fun _ => ⟨rfl, rfl, rfl⟩⟩

set_option maxRecDepth 100000 in
set_option maxHeartbeats 16000000 in
theorem nodes_any {w : World} {R : Nat} {v : Value} {l : List Int} {a : Nat} (h : Rd w R v l a 0) (hb : AllB l) (ha : a ≤ l.length) (hl : l.length ≤ 100000) (d : Nat) (hd : 1 ≤ d ∧ d ≤ 8) :
  Calls Tryz.prog 135 #[.pointer (some ⟨R, 0, none⟩), .int .i64 (d : Int)] w fun e w' => NodesTo w R v l (rdNodes l d a) e w' := by
 have HR := hH h
 have hR := h.lt
 have HB := hH hb
 have hd0 : (d : Int) ≤ 8 := by omega
 have hd1 : (1 : Int) ≤ d := by omega
 have HRN := hH (fun Rz (hr : Run l d [(0, -1)] [] a 0 Rz) => run_nodes hb ha hr)
 obtain ⟨RES, hRES⟩ : ∃ r, rdNodes l d a = r := ⟨_, rfl⟩
 rw [hRES]
 have HRES := hH hRES
 clear h hb hRES
 go_enter Tryz.func135, Tryz.ntmps135
 go_wp2_with fail
 have S0 : NodeSt w (w.alloc (.cells #[.int .i64 0, .int .i64 (-1)] 164)) (w.heap.size + 1) R v l a 0 (.slice (some ⟨w.heap.size, 0, none⟩) 1 1) (.slice none 0 0) [(0, -1)] [] := by
  refine ⟨hR, ⟨by omega, by simp⟩, only_below bw, ⟨_, _, HR.out⟩, (Below.heap_alloc _ _ _ hR).trans HR.out.1, ?_, World.ownsRow_nil _ _ _ _, ?_, ?_, fun p hp => by simp at hp⟩
  ·exact rowAt_own (n := 1) (size := 2) (Nat.le_refl _) (row_new rfl) (Nat.le_refl 1) (by unfold maxLen; omega) rfl rfl
  ·intro g hg
   have e : w.heap.size = g := by simpa [Value.ownBlock] using hg
   exact ⟨by omega, fun h => by cases h⟩
  ·intro g hg
   cases hg
 have HS0 := hH S0
 clear S0
 go_loopw [5, 6, 7, 8, 9, 55, 56] (fun ov wv _ _ _ _ _ wr => ∃ (a' K : Nat) (e' : Int) (st : List (Nat × Int)) (ps : List (NodeP × Value)), NodeSt w wr K R v l a' e' wv ov st ps ∧ a' ≤ l.length ∧ (∀ Rz, Run l d st (ps.map (·.1)) a' e' Rz → Run l d [(0, -1)] [] a 0 Rz) ∧ (e' = 0 → ps.length ≤ a' ∧ st.length ≤ 2 * ps.length + 1) ∧ (∀ m ∈ st, m.2 < (ps.length : Int))) (fun _ _ _ _ _ _ _ wr => rdMeas R l.length wr)
 case atStart => exact ⟨a, _, 0, [(0, -1)], [], HS0.out, ha, fun Rz hr => hr, fun _ => ⟨by simp, by simp⟩, fun m hm => by simp at hm; subst hm; show (-1 : Int) < 0; omega⟩
 case round =>
  obtain ⟨a', K, e', st, ps, hS, ha', hrun, hbd, hof⟩ := hrel
  have HOF := hH hof
  rename World => wo
  have HS := hH hS
  have HRUN := hH hrun
  have HBD := hH hbd
  obtain ⟨wa, wc, rfl⟩ := own_shapeN hS.wt
  obtain ⟨oa, oc, rfl⟩ := own_shapeN hS.ou
  clear hS hrun hbd hof
  cases st with
  | nil =>
   by_cases he : e' = 0
   ·subst he
    obtain ⟨T, e0, hT, hps⟩ := res_some (HRES.out ▸ HRN.out _ (HRUN.out _ Run.done))
    have hsp := (rdB_spec HB.out d 7 a ha).2 T a' e0 (HRES.out.trans hT)
    have hok := rdB_ok HB.out d 7 a T a' e0 (HRES.out.trans hT)
    have hcb := cnt_bd' T hok.2
    have hcp := T.cnt_pos
    obtain ⟨hsp0, _⟩ := hsp
    subst hsp0
    have HT := hH hT
    have HPS := hH hps
    have HOK := hH hok.1
    obtain ⟨cn, hcn⟩ : ∃ cn, T.cnt = cn := ⟨_, rfl⟩
    have hpl : ps.length = cn := by rw [← hcn, ← T.raw_len 0, ← hps, List.length_map]
    have HCN := hH hcn
    obtain ⟨g, c, hgc, hg1, hg2⟩ := own_some2 HS.out.ou (by omega)
    injection hgc with ha1 _ hc1
    subst ha1 hc1
    rw [hcn] at hcp hcb
    rw [List.length_nil, hpl] at HS ⊢
    have HPL := hH hpl
    clear hT hps hok hcn hpl
    go_wp2_with fail
    refine (err_any HS.out.rd).mono ?_
    rintro e w1 ⟨rfl, rfl⟩
    go_wp2_with fail
    go_loopw [10, 11] (fun iv _ wr => ∃ (z : Int) (i : Nat) (qs : List (NodeP × Value)), iv = .int .i64 z ∧ z + 1 = (i : Int) ∧ i ≤ cn ∧ NodeSt w wr K R v l a' 0 (.slice wa 0 wc) (.slice (some ⟨g, 0, none⟩) cn oc) [] qs ∧ qs.map (·.1) = (T.raw 0).take i ++ (T.flat 0).drop i) (fun iv _ _ => (intOf iv + 1).toNat)
    case atStart => exact ⟨_, cn, ps, rfl, by omega, Nat.le_refl _, HS.out, by rw [HPS.out, List.take_of_length_le (by rw [T.raw_len, HCN.out]; exact Nat.le_refl _), List.drop_eq_nil_of_le (by rw [T.flat_len, HCN.out]; exact Nat.le_refl _), List.append_nil]⟩
    case round =>
     obtain ⟨z, i, qs, rfl, hz, hi, hQ, hqs⟩ := hrel
     have HQ := hH hQ
     have HQS := hH hqs
     have HQL := hH (show qs.length = cn by rw [← List.length_map, hqs, List.length_append, List.length_take, List.length_drop, T.raw_len, T.flat_len, HCN.out]; omega)
     clear hQ hqs
     cases i with
     | zero =>
      obtain rfl : z = -1 := by omega
      go_wp2_with fail
      go_ret
      rw [HT.out]
      refine ⟨_, _, _, rfl, HQ.out.to, fun T' hT' => ?_, fun h => by cases h⟩
      injection hT' with hT'
      subst hT'
      have := HQ.out.nodes (by have := HQL.out; omega)
      rw [HQS.out] at this
      simpa using this
     | succ k =>
      obtain rfl : z = (k : Int) := by omega
      have i0 : (0 : Int) ≤ (k : Int) := by omega
      have i1 : (k : Int) < (cn : Int) := by omega
      obtain ⟨n, hn⟩ := getElem?_ex (l := T.flat 0) (k := k) (by rw [T.flat_len, HCN.out]; omega)
      obtain ⟨m, hm, hcase⟩ := T.flat_at 0 k n hn
      obtain ⟨q, hq⟩ := getElem?_ex (l := qs) (k := k) (by have := HQL.out; omega)
      have hqm : q.1 = m := by
       have h1 : (qs.map (·.1))[k]? = some q.1 := by rw [List.getElem?_map, hq]; rfl
       rw [HQS.out, List.getElem?_append_left (by rw [List.length_take, T.raw_len, HCN.out]; omega), List.getElem?_take_of_lt (by omega), hm] at h1
       injection h1 with h1
       exact h1.symm
      have hou : wr.ownsRow w.heap.size 112 5 (.slice (some ⟨g, 0, none⟩) cn oc) cn (qs.flatMap rowN) := by
       have h := HQ.out.ou
       rw [HQL.out] at h
       exact h
      obtain ⟨_, _, r2, r3, r6⟩ := rowN_at qs k q hq
      have y6 := (hou.cellAt (k * 5 + 4) (by omega)).trans r6
      have y2 := (hou.cellAt (k * 5 + 2) (by omega)).trans r2
      have y3 := (hou.cellAt (k * 5 + 3) (by omega)).trans r3
      rw [hqm] at y2 y3
      rcases hcase with ⟨hl0, rfl⟩ | ⟨hl0, hm2, rr, nl, nr, hr0, hrr, hnl, hnr, hsum⟩
      ·rw [hl0] at y2
       clear r2 r3 y3 hq hqm r6 y6
       go_wp2_with fail
       go_roundw
       case rel => exact ⟨(k : Int) - 1, k, qs, by go_num, by omega, by omega, HQ.out, by rw [HQS.out, fix_same hm hn]⟩
       case measure => simp [intOf] <;> omega
      ·have hfz : wr.frozen? ⟨g, k * 5 + 4, none⟩ = false := by
        obtain ⟨_, _, _, _, hrow, _⟩ := own_rowAt hou
        exact hrow.frozen _
       obtain ⟨q1, hq1⟩ : ∃ q1, q1 = k + 1 := ⟨_, rfl⟩
       rw [← hq1] at hnl
       have hrl : rr < cn := by have := (List.getElem?_eq_some_iff.1 hnr).1; rw [T.flat_len, HCN.out] at this; exact this
       have hql : q1 < cn := by have := (List.getElem?_eq_some_iff.1 hnl).1; rw [T.flat_len, HCN.out] at this; exact this
       have hkr : k + 1 ≤ (T.raw 0).length := by rw [T.raw_len, HCN.out]; omega
       obtain ⟨pl, hpl, hpl1⟩ := map_at (show (qs.map (·.1))[q1]? = some nl by rw [HQS.out]; exact fix_at hkr (by omega) hnl)
       obtain ⟨pr, hpr, hpr1⟩ := map_at (show (qs.map (·.1))[rr]? = some nr by rw [HQS.out]; exact fix_at hkr (by omega) hnr)
       obtain ⟨_, _, _, _, r4⟩ := rowN_at qs q1 pl hpl
       obtain ⟨_, _, _, _, r5⟩ := rowN_at qs rr pr hpr
       have y4 := (hou.cellAt (q1 * 5 + 4) (by omega)).trans r4
       have y5 := (hou.cellAt (rr * 5 + 4) (by omega)).trans r5
       rw [hpl1] at y4
       rw [hpr1] at y5
       have b1 := BT.flat_size T 0 q1 nl HOK.out hnl
       have b2 := BT.flat_size T 0 rr nr HOK.out hnr
       rw [HCN.out] at b1 b2
       have hfs := fix_step hm hn (by rw [hm2])
       rw [hsum] at hfs
       rw [hm2] at y2 y3
       rw [show ({ n with size := 0 } : NodeP).left = (q1 : Int) from by show n.left = _; rw [hl0, hq1]; congr 1; omega] at y2
       rw [show ({ n with size := 0 } : NodeP).right = (rr : Int) from by show n.right = _; rw [hr0]; congr 1; omega] at y3
       have HFS := hH hfs
       obtain ⟨sl, hsl⟩ : ∃ s, nl.size = s := ⟨_, rfl⟩
       obtain ⟨sr, hsr⟩ : ∃ s, nr.size = s := ⟨_, rfl⟩
       rw [hsl] at y4 b1 HFS
       rw [hsr] at y5 b2 HFS
       obtain ⟨b11, b12⟩ := b1
       obtain ⟨b21, b22⟩ := b2
       have i2 : (0 : Int) < (q1 : Int) := by omega
       have i3 : (0 : Int) ≤ (q1 : Int) := by omega
       have i4 : (q1 : Int) < (cn : Int) := by omega
       have i5 : (0 : Int) ≤ (rr : Int) := by omega
       have i6 : (rr : Int) < (cn : Int) := by omega
       have i7 : sl ≤ 10000 := by omega
       have i8 : sr ≤ 10000 := by omega
       clear r6 hq1 r2 r3 r4 r5 hq hqm hsum hnl hnr hl0 hr0 hm2 hpl hpr hpl1 hpr1 hsl hsr hfs hou hm hn
       go_wp2_with fail
       refine wp_region_B (T := fun w' => w'.cell? ⟨g, k * 5 + 2, none⟩ = some (.int .i64 (q1 : Int)) ∧ w'.cell? ⟨g, k * 5 + 3, none⟩ = some (.int .i64 (rr : Int)) ∧ w'.cell? ⟨g, q1 * 5 + 4, none⟩ = some (.int .i64 sl) ∧ w'.cell? ⟨g, rr * 5 + 4, none⟩ = some (.int .i64 sr)) 20 rJ kJ (fun hHeld => ?_); refine lTF 0 rfl hHeld ?_; refine lTF 1 rfl hHeld ?_; refine lTF 2 rfl hHeld ?_; refine lTF 3 rfl hHeld ?_; refine lTF 4 rfl hHeld ?_; refine lTB 5 #[true, true, true, true, true, false, false, false, false, true, true, true, true, true, true, true, true, false, false, false, false] rfl hHeld ?_; refine lTF 6 rfl hHeld ?_; refine lTF 7 rfl hHeld ?_; refine lTB 8 #[true, true, true, true, true, true, true, true, false, true, true, true, true, true, true, true, true, false, false, false, false] rfl hHeld ?_; refine lTF 9 rfl hHeld ?_; refine lTF 10 rfl hHeld ?_; refine lTF 11 rfl hHeld ?_; refine lTF 12 rfl hHeld ?_; refine lTB 13 #[true, true, true, true, true, true, true, true, true, true, true, true, true, false, false, false, false, false, false, false, false] rfl hHeld ?_; refine lTF 14 rfl hHeld ?_; refine lTF 15 rfl hHeld ?_; refine lTB 16 #[true, true, true, true, true, true, true, true, true, true, true, true, true, true, true, true, false, false, false, false, false] rfl hHeld ?_; refine lTF 17 rfl hHeld ?_; refine lTF 18 rfl hHeld ?_; refine lTF 19 rfl hHeld ?_; refine lexHvE 20 rfl ?_ rJ rJ; (intro K hK); (go_simp); refine hK.out _ _ ?_; (clear hK K); (try clear hHeld); (try simp only [Act.put]); refine wpAnyB_done rJ ?_ _
       go_wp2_with fail
       go_roundw
       case rel => exact ⟨(k : Int) - 1, k, setSV qs k (sl + sr), by go_num, by omega, by omega, (HQ.out.size (k := k) (r := sl + sr) HQL.out.symm (by have := HQL.out; omega)).later bw, by rw [setSV_fst, HQS.out]; exact HFS.out⟩
       case measure => simp [intOf] <;> omega
   ·have je : (e' != 0) = true := by simp [he]
    have HRZ := hH (res_none (HRES.out ▸ HRN.out _ (HRUN.out _ (Run.bad he))))
    rw [List.length_nil] at HS ⊢
    clear he
    go_wp2_with fail
    refine (err_any HS.out.rd).mono ?_
    rintro e w1 ⟨rfl, rfl⟩
    go_wp2_with fail
    go_ret
    rw [HRZ.out]
    exact NodesTo.none HS.out.to
  | cons m rest =>
   by_cases he : e' = 0
   ·subst he
    obtain ⟨dep, of⟩ := m
    rw [List.length_cons] at HS ⊢
    obtain ⟨g, c, hgc, hg1, hg2⟩ := own_some2 HS.out.wt (by rw [List.length_cons]; omega)
    injection hgc with ha1 _ hc1
    subst ha1 hc1
    obtain ⟨t0, t1⟩ := HS.out.top
    have hdeep := fun h : 6 < dep => res_none (HRES.out ▸ HRN.out _ (HRUN.out _ (Run.deep h)))
    have HDEEP := hH hdeep
    have hofm := HOF.out (dep, of) (by simp)
    have HOFM := hH hofm
    have hbd2 := HBD.out rfl
    have hpl := hbd2.1
    have hsl : rest.length ≤ 2 * ps.length := by have := hbd2.2; rw [List.length_cons] at this; omega
    have HOFR := hH (fun m hm => HOF.out m (List.mem_cons_of_mem _ hm))
    obtain ⟨rl, hrl⟩ : ∃ rl, rest.length = rl := ⟨_, rfl⟩
    have HSP := hH HS.out.pop
    rw [hrl] at HS t0 t1 hsl HSP ⊢
    have HRL := hH hrl
    obtain ⟨pn, hpn⟩ : ∃ pn, ps.length = pn := ⟨_, rfl⟩
    rw [hpn] at HS HSP hofm hpl hsl ⊢
    have HPN := hH hpn
    have hRo : R < wo.heap.size := HS.out.rd.lt
    have hgo : g < wo.heap.size := hg2
    clear hdeep hbd2 hrl hpn HOF HBD hg1 hg2
    have i1 : (0 : Int) < (rl : Int) + 1 := by omega
    have i2 : (0 : Int) ≤ (rl : Int) := by omega
    have i3 : (rl : Int) < (rl : Int) + 1 := by omega
    have i4 : (rl : Int) ≤ 300000 := by omega
    -- BODY
    have i5 : rl ≤ wc := by
     have h := HS.out.wt
     rw [List.length_cons, HRL.out] at h
     obtain ⟨_, _, _, _, _, h5, _⟩ := own_rowAt h
     omega
    have i6 : (rl : Int) ≤ (wc : Int) := by omega
    by_cases hdp : 6 < dep
    ·have HRZ := hH (HDEEP.out hdp)
     have j6 : (6 : Int) < (dep : Int) := by omega
     clear HDEEP
     go_wp2_with fail
     refine (err_any HS.out.rd).mono ?_
     rintro e w1 ⟨rfl, rfl⟩
     go_wp2_with fail
     (with_reducible refine (fail_any (HS.out.later (show Below wo.heap.size wo _ from bw)).rd 211).mono ?_)
     rintro e w2 ⟨rfl, r2⟩
     have S2 := hH ((HS.out.later (show Below wo.heap.size wo _ from bw)).read r2)
     clear r2
     go_wp2_with fail
     go_ret
     rw [HRZ.out]
     exact NodesTo.none S2.out.to
    ·have j6 : ¬ (6 : Int) < (dep : Int) := by omega
     clear HDEEP
     have hofm' := HOFM.out
     rcases Int.lt_or_le of 0 with hof0 | hof0
     ·have jof : ¬ (0 : Int) ≤ of := by omega
      go_wp2_with fail
      refine (err_any HS.out.rd).mono ?_
      rintro e w1 ⟨rfl, rfl⟩
      go_upto_region 12 with fail
      obtain ⟨w2, hw2⟩ : ∃ W, wo.alloc (.cells #[.int .i64 (dep : Int), .int .i64 of] 164) = W := ⟨_, rfl⟩
      rw [hw2]
      have S2 := hH (show NodeSt w w2 K R v l a' 0 (.slice (some ⟨g, 0, none⟩) rl wc) (.slice oa pn oc) rest ps from HSP.out.later (show Below wo.heap.size wo w2 from by rw [← hw2]; (repeat (first | with_reducible exact Below.refl _ _ | with_reducible refine Bs ?_ | with_reducible refine Ba ?_ | with_reducible refine Bd ?_ | with_reducible refine Bn ?_))))
      have MS := hH (show wo.heap.size < w2.heap.size by rw [← hw2]; simp)
      have MC := hH (show w2.cell? ⟨wo.heap.size, 0, none⟩ = some (.int .i64 (dep : Int)) ∧ w2.cell? ⟨wo.heap.size, 1, none⟩ = some (.int .i64 of) by subst hw2; constructor <;> go_simp)
      obtain ⟨ps2, hps2⟩ : ∃ q, q = ps := ⟨_, rfl⟩
      have HPM := hH (show ps2.map (·.1) = setR (ps.map (·.1)) of by rw [hps2]; unfold setR; rw [if_neg (by omega)])
      have HPL2 := hH (show ps2.length = pn by rw [hps2, HPN.out])
      rw [← hps2] at S2
      clear hw2 hps2
      have hz2 : wo.heap.size < w2.heap.size := MS.out
      have M0 := MC.out.1
      have M1 := MC.out.2
      go_wp2_with fail
      (with_reducible refine (readN_all S2.out.rd HB.out ha' hl 64 (by unfold Ok64; omega)).mono ?_)
      rintro e w3 ⟨rfl, r3⟩
      rcases hr3 : rdN' l a' 0 64 with ⟨sz, p3, e3⟩
      rw [hr3] at r3
      have S3 := hH (S2.out.read r3)
      have M0 := (cell_of_block (o := 0) (r3.2.block wo.heap.size hz2 (fun e => by injection e with e; omega))).trans M0
      have M1 := (cell_of_block (o := 1) (r3.2.block wo.heap.size hz2 (fun e => by injection e with e; omega))).trans M1
      have hz3 : wo.heap.size < w3.heap.size := by have := r3.2.size; omega
      have hw3 : w.heap.size ≤ w3.heap.size := S3.out.gr.size
      have hp3 := rdN'_le HB.out ha' 0 64
      have hf3 := rdN'_facts l HB.out a' 0 64
      rw [hr3] at hp3 hf3
      simp only at hp3 hf3
      have HR3 := hH hr3
      have HF3 := hH hf3
      clear r3 hr3 hf3
      by_cases hsz : sz = 0
      ·subst hsz
       have hK3 : K ≤ w3.heap.size := S3.out.hK.2
       have hR3 : R < w3.heap.size := S3.out.rd.lt
       have HPP := hH hp3
       go_wp2_with fail
       go_loopw [56] (fun jv wr => ∃ (j : Nat) (acc : List Int) (p' : Nat) (e' : Int) (cv : Value), jv = .int .i64 (j : Int) ∧ j ≤ d ∧ p' ≤ l.length ∧ rdXs l j p3 e3 = (acc, p', e') ∧ acc.length = j ∧ NodeSt w wr K R v l p' e' (.slice (some ⟨g, 0, none⟩) rl wc) (.slice oa pn oc) rest ps2 ∧ wr.ownsRow (w3.heap.size + 1) 3 1 cv acc.length (intF acc) ∧ w3.heap.size < wr.heap.size ∧ (wr.cell? ⟨w3.heap.size, 0, none⟩ = some cv ∧ wr.frozen? ⟨w3.heap.size, 0, none⟩ = false ∧ wr.cell? ⟨w3.heap.size, 1, none⟩ = some (.int .i64 0) ∧ wr.frozen? ⟨w3.heap.size, 1, none⟩ = false ∧ wr.cell? ⟨w3.heap.size, 2, none⟩ = some (.int .i64 0) ∧ wr.frozen? ⟨w3.heap.size, 2, none⟩ = false ∧ wr.cell? ⟨w3.heap.size, 3, none⟩ = some (.int .i64 0) ∧ wr.cell? ⟨w3.heap.size, 4, none⟩ = some (.int .i64 0)) ∧ wr.cell? ⟨wo.heap.size, 0, none⟩ = some (.int .i64 (dep : Int)) ∧ wr.cell? ⟨wo.heap.size, 1, none⟩ = some (.int .i64 of)) (fun jv _ => d - (intOf jv).toNat)
       case atStart => exact ⟨0, [], p3, e3, .slice none 0 0, rfl, by omega, HPP.out, rfl, rfl, S3.out.later (show Below w3.heap.size w3 _ from bw), World.ownsRow_nil _ _ _ _, by simp, by and_intros <;> go_simp, by go_simp, by go_simp⟩
       case round =>
        obtain ⟨j, acc, p', e', cv, rfl, hj, hp', hxs, hal, hs, ho, hsz', ⟨c0, f0, c1, f1, c2, f2, c3, c4⟩, m0, m1⟩ := hrel
        rename World => wi
        have HXS := hH hxs
        have HAL := hH hal
        have SJ := hH hs
        have HO := hH ho
        obtain ⟨ca, cc, rfl⟩ := own_shapeN ho
        obtain ⟨⟨x, p4, e4⟩, hx⟩ : ∃ r, rdI' l p' e' = r := ⟨_, rfl⟩
        have HX := hH hx
        have HP4 := hH (show p4 ≤ l.length by have := rdI'_le HB.out hp' e'; rw [hx] at this; exact this)
        have SD := hH (SJ.out.later (show Below wi.heap.size wi wi.drew from bw))
        have HC := hH (show Calls Tryz.prog 104 #[.pointer (some ⟨R, 0, none⟩)] wi.drew fun e w' => e = .returned (.int .i64 x) ∧ RdTo wi.drew R v l w' p4 e4 from by have := readI_all SD.out.rd HB.out hp' hl; rw [hx] at this; exact this)
        have hmi : wo.heap.size < wi.heap.size := by omega
        clear hxs hal hs ho hx
        by_cases hlt : j < d
        ·have jj : (j : Int) < (d : Int) := by omega
         go_wp2_with fail
         refine wp_region_B (T := fun w' => w'.cell? ⟨w3.heap.size, 0, none⟩ = some (.slice ca acc.length cc)) 9 rJ kJ (fun hHeld => ?_); refine lTF 0 rfl hHeld ?_; refine lTF 1 rfl hHeld ?_; refine lTB 2 #[true, true, false, true, true, true, false, false, false, false] rfl hHeld ?_; refine lTF 3 rfl hHeld ?_; refine lexHvB 4 rfl ?_ rJ; (intro K hK); (go_simp; (go_at_call 104); ((with_reducible refine HC.out.mono ?_)); (rintro e w4 ⟨rfl, r4⟩); (have S4 := hH (SD.out.read r4)); (have z4 := r4.2.size); (simp only [World.size_drew] at z4); (have c0 : w4.cell? ⟨w3.heap.size, 0, none⟩ = some (.slice ca acc.length cc) := (gcell r4.2 mJ (fun e => by injection e with e; omega)).trans c0); (have f0 : w4.frozen? ⟨w3.heap.size, 0, none⟩ = false := (gfroz r4.2 mJ (fun e => by injection e with e; omega)).trans f0); (have c1 : w4.cell? ⟨w3.heap.size, 1, none⟩ = some (.int .i64 0) := (gcell r4.2 mJ (fun e => by injection e with e; omega)).trans c1); (have f1 : w4.frozen? ⟨w3.heap.size, 1, none⟩ = false := (gfroz r4.2 mJ (fun e => by injection e with e; omega)).trans f1); (have c2 : w4.cell? ⟨w3.heap.size, 2, none⟩ = some (.int .i64 0) := (gcell r4.2 mJ (fun e => by injection e with e; omega)).trans c2); (have f2 : w4.frozen? ⟨w3.heap.size, 2, none⟩ = false := (gfroz r4.2 mJ (fun e => by injection e with e; omega)).trans f2); (have c3 : w4.cell? ⟨w3.heap.size, 3, none⟩ = some (.int .i64 0) := (gcell r4.2 mJ (fun e => by injection e with e; omega)).trans c3); (have c4 : w4.cell? ⟨w3.heap.size, 4, none⟩ = some (.int .i64 0) := (gcell r4.2 mJ (fun e => by injection e with e; omega)).trans c4); (have m0 : w4.cell? ⟨wo.heap.size, 0, none⟩ = some (.int .i64 (dep : Int)) := (gcell r4.2 mJ (fun e => by injection e with e; omega)).trans m0); (have m1 : w4.cell? ⟨wo.heap.size, 1, none⟩ = some (.int .i64 of) := (gcell r4.2 mJ (fun e => by injection e with e; omega)).trans m1); (have HO4 := hH (own_at (w' := w4) HO.out fun g hg => r4.2.block g (HO.out.lt g hg).2 (fun e => by injection e with e; have := (HO.out.lt g hg).1; omega))); (clear r4); (try go_wp2_with fail)); clear hHeld; refine pJ hK fun hHeld => ?_; clear hK K; refine lexHvB 5 rfl ?_ rJ; (intro K hK); (go_simp); clear hHeld; refine pJ hK fun hHeld => ?_; clear hK K; refine lexHvB 6 rfl ?_ rJ; (intro K hK); ((refine appI_step rfl _ _ rfl (w3.heap.size + 1) (by rfl) (HO4.out.alloc _) (by rfl) (newIw x w4 _ _ (by rfl)) (by have := HAL.out; simp; omega) (by simp; omega) ?_); (intro v5 w5 ho5 hb5 _); (obtain ⟨va, vc, rfl⟩ := own_shapeN ho5); (have z5 := hb5.size); (simp only [World.size_alloc] at z5); (have S5 := hH ((S4.out.later ((Below.refl _ _).alloc (Nat.le_refl _) _)).grow hb5 (fun g hg => by have := (HO4.out.lt g hg).1; omega))); (have c0 : w5.cell? ⟨w3.heap.size, 0, none⟩ = some (.slice ca acc.length cc) := (gcell hb5 mJ (fun e => by have := (HO4.out.lt _ e).1; omega)).trans (acell _ c0 (by omega))); (have f0 : w5.frozen? ⟨w3.heap.size, 0, none⟩ = false := (gfroz hb5 mJ (fun e => by have := (HO4.out.lt _ e).1; omega)).trans (afroz _ f0 (by omega))); (have c1 : w5.cell? ⟨w3.heap.size, 1, none⟩ = some (.int .i64 0) := (gcell hb5 mJ (fun e => by have := (HO4.out.lt _ e).1; omega)).trans (acell _ c1 (by omega))); (have f1 : w5.frozen? ⟨w3.heap.size, 1, none⟩ = false := (gfroz hb5 mJ (fun e => by have := (HO4.out.lt _ e).1; omega)).trans (afroz _ f1 (by omega))); (have c2 : w5.cell? ⟨w3.heap.size, 2, none⟩ = some (.int .i64 0) := (gcell hb5 mJ (fun e => by have := (HO4.out.lt _ e).1; omega)).trans (acell _ c2 (by omega))); (have f2 : w5.frozen? ⟨w3.heap.size, 2, none⟩ = false := (gfroz hb5 mJ (fun e => by have := (HO4.out.lt _ e).1; omega)).trans (afroz _ f2 (by omega))); (have c3 : w5.cell? ⟨w3.heap.size, 3, none⟩ = some (.int .i64 0) := (gcell hb5 mJ (fun e => by have := (HO4.out.lt _ e).1; omega)).trans (acell _ c3 (by omega))); (have c4 : w5.cell? ⟨w3.heap.size, 4, none⟩ = some (.int .i64 0) := (gcell hb5 mJ (fun e => by have := (HO4.out.lt _ e).1; omega)).trans (acell _ c4 (by omega))); (have m0 : w5.cell? ⟨wo.heap.size, 0, none⟩ = some (.int .i64 (dep : Int)) := (gcell hb5 mJ (fun e => by have := (HO4.out.lt _ e).1; omega)).trans (acell _ m0 (by omega))); (have m1 : w5.cell? ⟨wo.heap.size, 1, none⟩ = some (.int .i64 of) := (gcell hb5 mJ (fun e => by have := (HO4.out.lt _ e).1; omega)).trans (acell _ m1 (by omega))); (have HO5 := hH ho5); (clear ho5 hb5)); clear hHeld; refine pJ hK fun hHeld => ?_; clear hK K; refine lTF 7 rfl hHeld ?_; refine lTF 8 rfl hHeld ?_; refine lexHvE 9 rfl ?_ rJ rJ; (intro K hK); (go_simp); refine hK.out _ _ ?_; (clear hK K); (try clear hHeld); (try simp only [Act.put]); refine wpAnyB_done rJ ?_ _
         go_wp2_with fail
         go_roundw
         case rel => exact ⟨j + 1, acc ++ [x], p4, e4, _, by go_num, by omega, HP4.out, rdXs_next HXS.out HX.out, by have := HAL.out; simp; omega, S5.out.set _ _ _ hK3, own_set HO5.out (by simp), by simp; omega, by and_intros <;> go_simp, by go_simp, by go_simp⟩
         case measure => simp [intOf] <;> omega
        ·obtain rfl : d = j := by omega
         have jj : ¬ (d : Int) < (d : Int) := by omega
         have h0 := readI_all SJ.out.rd HB.out hp' hl
         rw [HX.out] at h0
         have HOL := hH (show (ps.map (·.1)).length = pn by rw [List.length_map, HPN.out])
         go_wp2_with fail
         (with_reducible refine h0.mono ?_)
         rintro e w6 ⟨rfl, r6⟩
         have S6 := hH (SJ.out.read r6)
         have z6 := r6.2.size
         have c0 : w6.cell? ⟨w3.heap.size, 0, none⟩ = some (.slice ca acc.length cc) := (gcell r6.2 mJ (fun e => by injection e with e; omega)).trans c0
         have f0 : w6.frozen? ⟨w3.heap.size, 0, none⟩ = false := (gfroz r6.2 mJ (fun e => by injection e with e; omega)).trans f0
         have c1 : w6.cell? ⟨w3.heap.size, 1, none⟩ = some (.int .i64 0) := (gcell r6.2 mJ (fun e => by injection e with e; omega)).trans c1
         have f1 : w6.frozen? ⟨w3.heap.size, 1, none⟩ = false := (gfroz r6.2 mJ (fun e => by injection e with e; omega)).trans f1
         have c2 : w6.cell? ⟨w3.heap.size, 2, none⟩ = some (.int .i64 0) := (gcell r6.2 mJ (fun e => by injection e with e; omega)).trans c2
         have f2 : w6.frozen? ⟨w3.heap.size, 2, none⟩ = false := (gfroz r6.2 mJ (fun e => by injection e with e; omega)).trans f2
         have c3 : w6.cell? ⟨w3.heap.size, 3, none⟩ = some (.int .i64 0) := (gcell r6.2 mJ (fun e => by injection e with e; omega)).trans c3
         have c4 : w6.cell? ⟨w3.heap.size, 4, none⟩ = some (.int .i64 0) := (gcell r6.2 mJ (fun e => by injection e with e; omega)).trans c4
         have m0 : w6.cell? ⟨wo.heap.size, 0, none⟩ = some (.int .i64 (dep : Int)) := (gcell r6.2 mJ (fun e => by injection e with e; omega)).trans m0
         have m1 : w6.cell? ⟨wo.heap.size, 1, none⟩ = some (.int .i64 of) := (gcell r6.2 mJ (fun e => by injection e with e; omega)).trans m1
         have HO6 := hH (own_at (w' := w6) HO.out fun g hg => r6.2.block g (HO.out.lt g hg).2 (fun e => by injection e with e; have := (HO.out.lt g hg).1; omega))
         have S7 := hH (show NodeSt w (((w6.setCell ⟨w3.heap.size, 1, none⟩ (.int .i64 x)).setCell ⟨w3.heap.size, 2, none⟩ (.int .i64 ((pn : Int) + 1))).alloc (.cells #[.int .i64 ((dep : Int) + 1), .int .i64 (pn : Int), .int .i64 ((dep : Int) + 1), .int .i64 (-1)] 164)) K R v l p4 e4 (.slice (some ⟨g, 0, none⟩) rl wc) (.slice oa pn oc) rest ps2 from (((S6.out.set _ _ _ hK3).set _ _ _ hK3).later ((Below.refl _ _).alloc (Nat.le_refl _) _)))
         clear r6 h0
         go_wp2_with (at_builtin; go_must (refine appS rfl _ _ 165 rfl Tryz.underlying165 eiMiss w.heap.size (by rfl) S7.out.wt (by rfl) (ys := [.int .i64 ((dep : Int) + 1), .int .i64 (pn : Int), .int .i64 ((dep : Int) + 1), .int .i64 (-1)]) rfl (new4 _ _ _ _ _ _ _ mJ) (by simp [Value.oneCell']) (by have := HRL.out; omega) mJ ?_))
         intro v7 w7 o7 g7 nb7
         have z7 := g7.size
         simp only [World.size_alloc, World.size_setCell] at z7
         have c0 : w7.cell? ⟨w3.heap.size, 0, none⟩ = some (.slice ca acc.length cc) := (gcell g7 mJ (fun e => by have := (S7.out.wk _ e).1; omega)).trans (acell _ (by go_simp) mJ)
         have c1 : w7.cell? ⟨w3.heap.size, 1, none⟩ = some (.int .i64 x) := (gcell g7 mJ (fun e => by have := (S7.out.wk _ e).1; omega)).trans (acell _ (by go_simp) mJ)
         have c2 : w7.cell? ⟨w3.heap.size, 2, none⟩ = some (.int .i64 ((pn : Int) + 1)) := (gcell g7 mJ (fun e => by have := (S7.out.wk _ e).1; omega)).trans (acell _ (by go_simp) mJ)
         have c3 : w7.cell? ⟨w3.heap.size, 3, none⟩ = some (.int .i64 0) := (gcell g7 mJ (fun e => by have := (S7.out.wk _ e).1; omega)).trans (acell _ (by go_simp) mJ)
         have c4 : w7.cell? ⟨w3.heap.size, 4, none⟩ = some (.int .i64 0) := (gcell g7 mJ (fun e => by have := (S7.out.wk _ e).1; omega)).trans (acell _ (by go_simp) mJ)
         have HO7 := hH (own_at (w' := w7) HO6.out fun b hb => (g7.block b (by have := (HO6.out.lt b hb).2; simp; omega) (fun e => by have := (S7.out.wk b e.symm).1; have := (HO6.out.lt b hb).1; omega)).trans ((Below.heap_alloc _ _ _ (by have := (HO6.out.lt b hb).2; simp; omega)).trans ((Below.heap_setCell _ _ _ _ (show b ≠ w3.heap.size by have := (HO6.out.lt b hb).1; omega)).trans (Below.heap_setCell _ _ _ _ (show b ≠ w3.heap.size by have := (HO6.out.lt b hb).1; omega)))))
         have S8 := hH (S7.out.push (m1 := (dep + 1, (pn : Int))) (m2 := (dep + 1, -1)) (by simpa [rowW] using o7) g7 nb7)
         have HNC := hH (show ∀ b, AtB (.slice ca acc.length cc) b → w.heap.size ≤ b ∧ b < w7.heap.size ∧ v7.ownBlock ≠ some b ∧ (Value.ownBlock (.slice oa pn oc)) ≠ some b from by
          rintro b ⟨o', n', c', e⟩
          have hbt := Betw.own HO6.out b o' n' c' e
          refine ⟨by omega, by omega, fun e2 => ?_, fun e2 => by have := S6.out.ok b e2; omega⟩
          rcases nb7 with h | ⟨q, h, hq⟩
          ·rw [h] at e2
           have := (S7.out.wk b e2).1
           omega
          ·rw [h] at e2
           injection e2 with e2
           simp only [World.size_alloc, World.size_setCell] at hq
           omega)
         clear o7 g7 nb7
         go_wp2_with (at_builtin; go_must (refine app1N rfl _ _ 104 rfl Tryz.underlying104 eiNode w.heap.size (by rfl) S8.out.ou (by rfl) (by first | rfl | simp) rfl (by simp [Value.oneCell']) (by have := HPL2.out; omega) mJ ?_))
         intro v9 w9 o9 g9 nb9
         have S9 := hH (S8.out.add (n := nodeN acc x pn) (cv := .slice ca acc.length cc) (Ints.own HO7.out (by have := HAL.out; omega)).2 (fun _ b hb => HNC.out b hb) (by simpa [rowN, nodeN] using o9) g9 nb9)
         clear o9 g9 nb9
         go_wp2_with fail
         go_roundw
         case rel => exact ⟨p4, _, e4, (dep + 1, -1) :: (dep + 1, (pn : Int)) :: rest, ps2 ++ [(nodeN acc x pn, .slice ca acc.length cc)], S9.out, HP4.out, fun Rz hr => HRUN.out Rz (Run.node (by omega) HR3.out HXS.out HX.out (by rw [HOL.out]; rw [List.map_append, HPM.out] at hr; exact hr)), fun he4 => by
          subst he4
          have hm := rdXs_mono HB.out HPP.out HXS.out HX.out
          have ha3 := (HF3.out.2 hm.1).1
          have hrl := HRL.out
          simp only [List.length_append, List.length_cons, List.length_nil, HPL2.out]
          omega, fun m hm => by
          rw [List.length_append, HPL2.out]
          show m.2 < ((pn + 1 : Nat) : Int)
          rcases List.mem_cons.1 hm with rfl | hm
          ·show (-1 : Int) < _; omega
          ·rcases List.mem_cons.1 hm with rfl | hm
           ·show (pn : Int) < _; omega
           ·have := HOFR.out m hm; have := HPN.out; omega⟩
         case measure =>
          rw [rdMeas_ok HS.out.rd]
          by_cases he4 : e4 = 0
          ·subst he4
           have hm := rdXs_mono HB.out HPP.out HXS.out HX.out
           have ha3 := (HF3.out.2 hm.1).1
           rw [rdMeas_ok S9.out.rd]
           omega
          ·rw [rdMeas_bad S9.out.rd he4]
           omega
      ·have jsz : ((sz : Int) == 0) = false := by rw [beq_eq_false_iff_ne]; omega
       have he3 : e3 = 0 := by
        by_cases h : e3 = 0
        ·exact h
        ·exact absurd ((HF3.out).1 h).1 hsz
       subst he3
       have hlt3 := (HF3.out.2 rfl).1
       go_wp2_with (at_builtin; go_must (refine app1N rfl _ _ 104 rfl Tryz.underlying104 eiNode w.heap.size (by rfl) (S3.out.later (show Below w3.heap.size w3 _ from bw)).ou (by rfl) (by first | rfl | simp) rfl (by simp [Value.oneCell']) (by have := HPL2.out; omega) mJ ?_))
       intro v5 w5 o5 g5 nb5
       have S5 := hH ((S3.out.later (show Below w3.heap.size w3 (w3.alloc (.cells #[.slice none 0 0, .int .i64 0, .int .i64 0, .int .i64 0, .int .i64 (sz : Int)] 112)) from bw)).add (n := leafN sz) (cv := .slice none 0 0) (ints_nil _ _ _ _ (by omega)) (fun h => absurd rfl h) (by simpa [rowN, leafN] using o5) g5 nb5)
       clear o5 g5 nb5
       go_wp2_with fail
       go_roundw
       case rel => exact ⟨p3, _, 0, rest, ps2 ++ [(leafN sz, .slice none 0 0)], S5.out, hp3, fun Rz hr => HRUN.out Rz (Run.leaf (by omega) HR3.out hsz (by rw [List.map_append, HPM.out] at hr; exact hr)), fun _ => ⟨by rw [List.length_append, HPL2.out]; show pn + 1 ≤ p3; omega, by rw [List.length_append, HPL2.out, HRL.out]; show rl ≤ 2 * (pn + 1) + 1; omega⟩, fun m hm => by have := HOFR.out m hm; have := HPN.out; rw [List.length_append, HPL2.out]; show m.2 < ((pn + 1 : Nat) : Int); omega⟩
       case measure => rw [rdMeas_ok S5.out.rd, rdMeas_ok HS.out.rd]; omega
     ·obtain ⟨k, rfl⟩ : ∃ k : Nat, of = (k : Int) := ⟨of.toNat, by omega⟩
      have hkp : k < pn := by
       have h1 : ((k : Nat) : Int) < (ps.length : Int) := hofm'
       have := HPN.out
       omega
      obtain ⟨og, oc', hoc, ho1, ho2⟩ := own_some2 HS.out.ou (by have := HPN.out; omega)
      rw [HPN.out] at hoc
      injection hoc with ha2 _ hc2
      subst ha2 hc2
      obtain ⟨q, hq⟩ := getElem?_ex (l := ps) (k := k) (by have := HPN.out; omega)
      obtain ⟨_, _, _, r3, _⟩ := rowN_at ps k q hq
      have hou : wo.ownsRow w.heap.size 112 5 (.slice (some ⟨og, 0, none⟩) pn oc) pn (ps.flatMap rowN) := by
       have h := HS.out.ou
       rw [HPN.out] at h
       exact h
      have y3 := (hou.cellAt (k * 5 + 3) (by omega)).trans r3
      have hfz : wo.frozen? ⟨og, k * 5 + 3, none⟩ = false := by
       obtain ⟨_, _, _, _, hrow, _⟩ := own_rowAt hou
       exact hrow.frozen _
      have jof : (0 : Int) ≤ (k : Int) := by omega
      have jk : (k : Int) < (pn : Int) := by omega
      have hogo : og ≠ wo.heap.size := by omega
      clear r3 hq hou
      go_wp2_with fail
      refine (err_any HS.out.rd).mono ?_
      rintro e w1 ⟨rfl, rfl⟩
      go_upto_region 12 with fail
      obtain ⟨w2, hw2⟩ : ∃ W, (wo.setCell ⟨og, k * 5 + 3, none⟩ (.int .i64 (pn : Int))).alloc (.cells #[.int .i64 (dep : Int), .int .i64 (k : Int)] 164) = W := ⟨_, rfl⟩
      rw [hw2]
      have S2' := (HSP.out.right (k := k) (r := (pn : Int)) HPN.out.symm (by have := HPN.out; omega)).later ((Below.refl _ _).alloc (Nat.le_refl _) (.cells #[.int .i64 (dep : Int), .int .i64 (k : Int)] 164))
      rw [hw2] at S2'
      have MS := hH (show wo.heap.size < w2.heap.size by rw [← hw2]; simp)
      have MC := hH (show w2.cell? ⟨wo.heap.size, 0, none⟩ = some (.int .i64 (dep : Int)) ∧ w2.cell? ⟨wo.heap.size, 1, none⟩ = some (.int .i64 (k : Int)) by subst hw2; constructor <;> go_simp)
      obtain ⟨ps2, hps2⟩ : ∃ q, q = setRV ps k (pn : Int) := ⟨_, rfl⟩
      rw [← hps2] at S2'
      have S2 := hH S2'
      have HPM := hH (show ps2.map (·.1) = setR (ps.map (·.1)) (k : Int) by rw [hps2, setRV_fst, setR_pos, List.length_map, HPN.out])
      have HPL2 := hH (show ps2.length = pn by rw [hps2]; unfold setRV; rw [List.length_modify, HPN.out])
      clear hw2 hps2 S2' y3 hfz
      have hz2 : wo.heap.size < w2.heap.size := MS.out
      have M0 := MC.out.1
      have M1 := MC.out.2
      go_wp2_with fail
      (with_reducible refine (readN_all S2.out.rd HB.out ha' hl 64 (by unfold Ok64; omega)).mono ?_)
      rintro e w3 ⟨rfl, r3⟩
      rcases hr3 : rdN' l a' 0 64 with ⟨sz, p3, e3⟩
      rw [hr3] at r3
      have S3 := hH (S2.out.read r3)
      have M0 := (cell_of_block (o := 0) (r3.2.block wo.heap.size hz2 (fun e => by injection e with e; omega))).trans M0
      have M1 := (cell_of_block (o := 1) (r3.2.block wo.heap.size hz2 (fun e => by injection e with e; omega))).trans M1
      have hz3 : wo.heap.size < w3.heap.size := by have := r3.2.size; omega
      have hw3 : w.heap.size ≤ w3.heap.size := S3.out.gr.size
      have hp3 := rdN'_le HB.out ha' 0 64
      have hf3 := rdN'_facts l HB.out a' 0 64
      rw [hr3] at hp3 hf3
      simp only at hp3 hf3
      have HR3 := hH hr3
      have HF3 := hH hf3
      clear r3 hr3 hf3
      by_cases hsz : sz = 0
      ·subst hsz
       have hK3 : K ≤ w3.heap.size := S3.out.hK.2
       have hR3 : R < w3.heap.size := S3.out.rd.lt
       have HPP := hH hp3
       go_wp2_with fail
       go_loopw [56] (fun jv wr => ∃ (j : Nat) (acc : List Int) (p' : Nat) (e' : Int) (cv : Value), jv = .int .i64 (j : Int) ∧ j ≤ d ∧ p' ≤ l.length ∧ rdXs l j p3 e3 = (acc, p', e') ∧ acc.length = j ∧ NodeSt w wr K R v l p' e' (.slice (some ⟨g, 0, none⟩) rl wc) (.slice (some ⟨og, 0, none⟩) pn oc) rest ps2 ∧ wr.ownsRow (w3.heap.size + 1) 3 1 cv acc.length (intF acc) ∧ w3.heap.size < wr.heap.size ∧ (wr.cell? ⟨w3.heap.size, 0, none⟩ = some cv ∧ wr.frozen? ⟨w3.heap.size, 0, none⟩ = false ∧ wr.cell? ⟨w3.heap.size, 1, none⟩ = some (.int .i64 0) ∧ wr.frozen? ⟨w3.heap.size, 1, none⟩ = false ∧ wr.cell? ⟨w3.heap.size, 2, none⟩ = some (.int .i64 0) ∧ wr.frozen? ⟨w3.heap.size, 2, none⟩ = false ∧ wr.cell? ⟨w3.heap.size, 3, none⟩ = some (.int .i64 0) ∧ wr.cell? ⟨w3.heap.size, 4, none⟩ = some (.int .i64 0)) ∧ wr.cell? ⟨wo.heap.size, 0, none⟩ = some (.int .i64 (dep : Int)) ∧ wr.cell? ⟨wo.heap.size, 1, none⟩ = some (.int .i64 (k : Int))) (fun jv _ => d - (intOf jv).toNat)
       case atStart => exact ⟨0, [], p3, e3, .slice none 0 0, rfl, by omega, HPP.out, rfl, rfl, S3.out.later (show Below w3.heap.size w3 _ from bw), World.ownsRow_nil _ _ _ _, by simp, by and_intros <;> go_simp, by go_simp, by go_simp⟩
       case round =>
        obtain ⟨j, acc, p', e', cv, rfl, hj, hp', hxs, hal, hs, ho, hsz', ⟨c0, f0, c1, f1, c2, f2, c3, c4⟩, m0, m1⟩ := hrel
        rename World => wi
        have HXS := hH hxs
        have HAL := hH hal
        have SJ := hH hs
        have HO := hH ho
        obtain ⟨ca, cc, rfl⟩ := own_shapeN ho
        obtain ⟨⟨x, p4, e4⟩, hx⟩ : ∃ r, rdI' l p' e' = r := ⟨_, rfl⟩
        have HX := hH hx
        have HP4 := hH (show p4 ≤ l.length by have := rdI'_le HB.out hp' e'; rw [hx] at this; exact this)
        have SD := hH (SJ.out.later (show Below wi.heap.size wi wi.drew from bw))
        have HC := hH (show Calls Tryz.prog 104 #[.pointer (some ⟨R, 0, none⟩)] wi.drew fun e w' => e = .returned (.int .i64 x) ∧ RdTo wi.drew R v l w' p4 e4 from by have := readI_all SD.out.rd HB.out hp' hl; rw [hx] at this; exact this)
        have hmi : wo.heap.size < wi.heap.size := by omega
        clear hxs hal hs ho hx
        by_cases hlt : j < d
        ·have jj : (j : Int) < (d : Int) := by omega
         go_wp2_with fail
         refine wp_region_B (T := fun w' => w'.cell? ⟨w3.heap.size, 0, none⟩ = some (.slice ca acc.length cc)) 9 rJ kJ (fun hHeld => ?_); refine lTF 0 rfl hHeld ?_; refine lTF 1 rfl hHeld ?_; refine lTB 2 #[true, true, false, true, true, true, false, false, false, false] rfl hHeld ?_; refine lTF 3 rfl hHeld ?_; refine lexHvB 4 rfl ?_ rJ; (intro K hK); (go_simp; (go_at_call 104); ((with_reducible refine HC.out.mono ?_)); (rintro e w4 ⟨rfl, r4⟩); (have S4 := hH (SD.out.read r4)); (have z4 := r4.2.size); (simp only [World.size_drew] at z4); (have c0 : w4.cell? ⟨w3.heap.size, 0, none⟩ = some (.slice ca acc.length cc) := (gcell r4.2 mJ (fun e => by injection e with e; omega)).trans c0); (have f0 : w4.frozen? ⟨w3.heap.size, 0, none⟩ = false := (gfroz r4.2 mJ (fun e => by injection e with e; omega)).trans f0); (have c1 : w4.cell? ⟨w3.heap.size, 1, none⟩ = some (.int .i64 0) := (gcell r4.2 mJ (fun e => by injection e with e; omega)).trans c1); (have f1 : w4.frozen? ⟨w3.heap.size, 1, none⟩ = false := (gfroz r4.2 mJ (fun e => by injection e with e; omega)).trans f1); (have c2 : w4.cell? ⟨w3.heap.size, 2, none⟩ = some (.int .i64 0) := (gcell r4.2 mJ (fun e => by injection e with e; omega)).trans c2); (have f2 : w4.frozen? ⟨w3.heap.size, 2, none⟩ = false := (gfroz r4.2 mJ (fun e => by injection e with e; omega)).trans f2); (have c3 : w4.cell? ⟨w3.heap.size, 3, none⟩ = some (.int .i64 0) := (gcell r4.2 mJ (fun e => by injection e with e; omega)).trans c3); (have c4 : w4.cell? ⟨w3.heap.size, 4, none⟩ = some (.int .i64 0) := (gcell r4.2 mJ (fun e => by injection e with e; omega)).trans c4); (have m0 : w4.cell? ⟨wo.heap.size, 0, none⟩ = some (.int .i64 (dep : Int)) := (gcell r4.2 mJ (fun e => by injection e with e; omega)).trans m0); (have m1 : w4.cell? ⟨wo.heap.size, 1, none⟩ = some (.int .i64 (k : Int)) := (gcell r4.2 mJ (fun e => by injection e with e; omega)).trans m1); (have HO4 := hH (own_at (w' := w4) HO.out fun g hg => r4.2.block g (HO.out.lt g hg).2 (fun e => by injection e with e; have := (HO.out.lt g hg).1; omega))); (clear r4); (try go_wp2_with fail)); clear hHeld; refine pJ hK fun hHeld => ?_; clear hK K; refine lexHvB 5 rfl ?_ rJ; (intro K hK); (go_simp); clear hHeld; refine pJ hK fun hHeld => ?_; clear hK K; refine lexHvB 6 rfl ?_ rJ; (intro K hK); ((refine appI_step rfl _ _ rfl (w3.heap.size + 1) (by rfl) (HO4.out.alloc _) (by rfl) (newIw x w4 _ _ (by rfl)) (by have := HAL.out; simp; omega) (by simp; omega) ?_); (intro v5 w5 ho5 hb5 _); (obtain ⟨va, vc, rfl⟩ := own_shapeN ho5); (have z5 := hb5.size); (simp only [World.size_alloc] at z5); (have S5 := hH ((S4.out.later ((Below.refl _ _).alloc (Nat.le_refl _) _)).grow hb5 (fun g hg => by have := (HO4.out.lt g hg).1; omega))); (have c0 : w5.cell? ⟨w3.heap.size, 0, none⟩ = some (.slice ca acc.length cc) := (gcell hb5 mJ (fun e => by have := (HO4.out.lt _ e).1; omega)).trans (acell _ c0 (by omega))); (have f0 : w5.frozen? ⟨w3.heap.size, 0, none⟩ = false := (gfroz hb5 mJ (fun e => by have := (HO4.out.lt _ e).1; omega)).trans (afroz _ f0 (by omega))); (have c1 : w5.cell? ⟨w3.heap.size, 1, none⟩ = some (.int .i64 0) := (gcell hb5 mJ (fun e => by have := (HO4.out.lt _ e).1; omega)).trans (acell _ c1 (by omega))); (have f1 : w5.frozen? ⟨w3.heap.size, 1, none⟩ = false := (gfroz hb5 mJ (fun e => by have := (HO4.out.lt _ e).1; omega)).trans (afroz _ f1 (by omega))); (have c2 : w5.cell? ⟨w3.heap.size, 2, none⟩ = some (.int .i64 0) := (gcell hb5 mJ (fun e => by have := (HO4.out.lt _ e).1; omega)).trans (acell _ c2 (by omega))); (have f2 : w5.frozen? ⟨w3.heap.size, 2, none⟩ = false := (gfroz hb5 mJ (fun e => by have := (HO4.out.lt _ e).1; omega)).trans (afroz _ f2 (by omega))); (have c3 : w5.cell? ⟨w3.heap.size, 3, none⟩ = some (.int .i64 0) := (gcell hb5 mJ (fun e => by have := (HO4.out.lt _ e).1; omega)).trans (acell _ c3 (by omega))); (have c4 : w5.cell? ⟨w3.heap.size, 4, none⟩ = some (.int .i64 0) := (gcell hb5 mJ (fun e => by have := (HO4.out.lt _ e).1; omega)).trans (acell _ c4 (by omega))); (have m0 : w5.cell? ⟨wo.heap.size, 0, none⟩ = some (.int .i64 (dep : Int)) := (gcell hb5 mJ (fun e => by have := (HO4.out.lt _ e).1; omega)).trans (acell _ m0 (by omega))); (have m1 : w5.cell? ⟨wo.heap.size, 1, none⟩ = some (.int .i64 (k : Int)) := (gcell hb5 mJ (fun e => by have := (HO4.out.lt _ e).1; omega)).trans (acell _ m1 (by omega))); (have HO5 := hH ho5); (clear ho5 hb5)); clear hHeld; refine pJ hK fun hHeld => ?_; clear hK K; refine lTF 7 rfl hHeld ?_; refine lTF 8 rfl hHeld ?_; refine lexHvE 9 rfl ?_ rJ rJ; (intro K hK); (go_simp); refine hK.out _ _ ?_; (clear hK K); (try clear hHeld); (try simp only [Act.put]); refine wpAnyB_done rJ ?_ _
         go_wp2_with fail
         go_roundw
         case rel => exact ⟨j + 1, acc ++ [x], p4, e4, _, by go_num, by omega, HP4.out, rdXs_next HXS.out HX.out, by have := HAL.out; simp; omega, S5.out.set _ _ _ hK3, own_set HO5.out (by simp), by simp; omega, by and_intros <;> go_simp, by go_simp, by go_simp⟩
         case measure => simp [intOf] <;> omega
        ·obtain rfl : d = j := by omega
         have jj : ¬ (d : Int) < (d : Int) := by omega
         have h0 := readI_all SJ.out.rd HB.out hp' hl
         rw [HX.out] at h0
         have HOL := hH (show (ps.map (·.1)).length = pn by rw [List.length_map, HPN.out])
         go_wp2_with fail
         (with_reducible refine h0.mono ?_)
         rintro e w6 ⟨rfl, r6⟩
         have S6 := hH (SJ.out.read r6)
         have z6 := r6.2.size
         have c0 : w6.cell? ⟨w3.heap.size, 0, none⟩ = some (.slice ca acc.length cc) := (gcell r6.2 mJ (fun e => by injection e with e; omega)).trans c0
         have f0 : w6.frozen? ⟨w3.heap.size, 0, none⟩ = false := (gfroz r6.2 mJ (fun e => by injection e with e; omega)).trans f0
         have c1 : w6.cell? ⟨w3.heap.size, 1, none⟩ = some (.int .i64 0) := (gcell r6.2 mJ (fun e => by injection e with e; omega)).trans c1
         have f1 : w6.frozen? ⟨w3.heap.size, 1, none⟩ = false := (gfroz r6.2 mJ (fun e => by injection e with e; omega)).trans f1
         have c2 : w6.cell? ⟨w3.heap.size, 2, none⟩ = some (.int .i64 0) := (gcell r6.2 mJ (fun e => by injection e with e; omega)).trans c2
         have f2 : w6.frozen? ⟨w3.heap.size, 2, none⟩ = false := (gfroz r6.2 mJ (fun e => by injection e with e; omega)).trans f2
         have c3 : w6.cell? ⟨w3.heap.size, 3, none⟩ = some (.int .i64 0) := (gcell r6.2 mJ (fun e => by injection e with e; omega)).trans c3
         have c4 : w6.cell? ⟨w3.heap.size, 4, none⟩ = some (.int .i64 0) := (gcell r6.2 mJ (fun e => by injection e with e; omega)).trans c4
         have m0 : w6.cell? ⟨wo.heap.size, 0, none⟩ = some (.int .i64 (dep : Int)) := (gcell r6.2 mJ (fun e => by injection e with e; omega)).trans m0
         have m1 : w6.cell? ⟨wo.heap.size, 1, none⟩ = some (.int .i64 (k : Int)) := (gcell r6.2 mJ (fun e => by injection e with e; omega)).trans m1
         have HO6 := hH (own_at (w' := w6) HO.out fun g hg => r6.2.block g (HO.out.lt g hg).2 (fun e => by injection e with e; have := (HO.out.lt g hg).1; omega))
         have S7 := hH (show NodeSt w (((w6.setCell ⟨w3.heap.size, 1, none⟩ (.int .i64 x)).setCell ⟨w3.heap.size, 2, none⟩ (.int .i64 ((pn : Int) + 1))).alloc (.cells #[.int .i64 ((dep : Int) + 1), .int .i64 (pn : Int), .int .i64 ((dep : Int) + 1), .int .i64 (-1)] 164)) K R v l p4 e4 (.slice (some ⟨g, 0, none⟩) rl wc) (.slice (some ⟨og, 0, none⟩) pn oc) rest ps2 from (((S6.out.set _ _ _ hK3).set _ _ _ hK3).later ((Below.refl _ _).alloc (Nat.le_refl _) _)))
         clear r6 h0
         go_wp2_with (at_builtin; go_must (refine appS rfl _ _ 165 rfl Tryz.underlying165 eiMiss w.heap.size (by rfl) S7.out.wt (by rfl) (ys := [.int .i64 ((dep : Int) + 1), .int .i64 (pn : Int), .int .i64 ((dep : Int) + 1), .int .i64 (-1)]) rfl (new4 _ _ _ _ _ _ _ mJ) (by simp [Value.oneCell']) (by have := HRL.out; omega) mJ ?_))
         intro v7 w7 o7 g7 nb7
         have z7 := g7.size
         simp only [World.size_alloc, World.size_setCell] at z7
         have c0 : w7.cell? ⟨w3.heap.size, 0, none⟩ = some (.slice ca acc.length cc) := (gcell g7 mJ (fun e => by have := (S7.out.wk _ e).1; omega)).trans (acell _ (by go_simp) mJ)
         have c1 : w7.cell? ⟨w3.heap.size, 1, none⟩ = some (.int .i64 x) := (gcell g7 mJ (fun e => by have := (S7.out.wk _ e).1; omega)).trans (acell _ (by go_simp) mJ)
         have c2 : w7.cell? ⟨w3.heap.size, 2, none⟩ = some (.int .i64 ((pn : Int) + 1)) := (gcell g7 mJ (fun e => by have := (S7.out.wk _ e).1; omega)).trans (acell _ (by go_simp) mJ)
         have c3 : w7.cell? ⟨w3.heap.size, 3, none⟩ = some (.int .i64 0) := (gcell g7 mJ (fun e => by have := (S7.out.wk _ e).1; omega)).trans (acell _ (by go_simp) mJ)
         have c4 : w7.cell? ⟨w3.heap.size, 4, none⟩ = some (.int .i64 0) := (gcell g7 mJ (fun e => by have := (S7.out.wk _ e).1; omega)).trans (acell _ (by go_simp) mJ)
         have HO7 := hH (own_at (w' := w7) HO6.out fun b hb => (g7.block b (by have := (HO6.out.lt b hb).2; simp; omega) (fun e => by have := (S7.out.wk b e.symm).1; have := (HO6.out.lt b hb).1; omega)).trans ((Below.heap_alloc _ _ _ (by have := (HO6.out.lt b hb).2; simp; omega)).trans ((Below.heap_setCell _ _ _ _ (show b ≠ w3.heap.size by have := (HO6.out.lt b hb).1; omega)).trans (Below.heap_setCell _ _ _ _ (show b ≠ w3.heap.size by have := (HO6.out.lt b hb).1; omega)))))
         have S8 := hH (S7.out.push (m1 := (dep + 1, (pn : Int))) (m2 := (dep + 1, -1)) (by simpa [rowW] using o7) g7 nb7)
         have HNC := hH (show ∀ b, AtB (.slice ca acc.length cc) b → w.heap.size ≤ b ∧ b < w7.heap.size ∧ v7.ownBlock ≠ some b ∧ (Value.ownBlock (.slice (some ⟨og, 0, none⟩) pn oc)) ≠ some b from by
          rintro b ⟨o', n', c', e⟩
          have hbt := Betw.own HO6.out b o' n' c' e
          refine ⟨by omega, by omega, fun e2 => ?_, fun e2 => by have := S6.out.ok b e2; omega⟩
          rcases nb7 with h | ⟨q, h, hq⟩
          ·rw [h] at e2
           have := (S7.out.wk b e2).1
           omega
          ·rw [h] at e2
           injection e2 with e2
           simp only [World.size_alloc, World.size_setCell] at hq
           omega)
         clear o7 g7 nb7
         go_wp2_with (at_builtin; go_must (refine app1N rfl _ _ 104 rfl Tryz.underlying104 eiNode w.heap.size (by rfl) S8.out.ou (by rfl) (by first | rfl | simp) rfl (by simp [Value.oneCell']) (by have := HPL2.out; omega) mJ ?_))
         intro v9 w9 o9 g9 nb9
         have S9 := hH (S8.out.add (n := nodeN acc x pn) (cv := .slice ca acc.length cc) (Ints.own HO7.out (by have := HAL.out; omega)).2 (fun _ b hb => HNC.out b hb) (by simpa [rowN, nodeN] using o9) g9 nb9)
         clear o9 g9 nb9
         go_wp2_with fail
         go_roundw
         case rel => exact ⟨p4, _, e4, (dep + 1, -1) :: (dep + 1, (pn : Int)) :: rest, ps2 ++ [(nodeN acc x pn, .slice ca acc.length cc)], S9.out, HP4.out, fun Rz hr => HRUN.out Rz (Run.node (by omega) HR3.out HXS.out HX.out (by rw [HOL.out]; rw [List.map_append, HPM.out] at hr; exact hr)), fun he4 => by
          subst he4
          have hm := rdXs_mono HB.out HPP.out HXS.out HX.out
          have ha3 := (HF3.out.2 hm.1).1
          have hrl := HRL.out
          simp only [List.length_append, List.length_cons, List.length_nil, HPL2.out]
          omega, fun m hm => by
          rw [List.length_append, HPL2.out]
          show m.2 < ((pn + 1 : Nat) : Int)
          rcases List.mem_cons.1 hm with rfl | hm
          ·show (-1 : Int) < _; omega
          ·rcases List.mem_cons.1 hm with rfl | hm
           ·show (pn : Int) < _; omega
           ·have := HOFR.out m hm; have := HPN.out; omega⟩
         case measure =>
          rw [rdMeas_ok HS.out.rd]
          by_cases he4 : e4 = 0
          ·subst he4
           have hm := rdXs_mono HB.out HPP.out HXS.out HX.out
           have ha3 := (HF3.out.2 hm.1).1
           rw [rdMeas_ok S9.out.rd]
           omega
          ·rw [rdMeas_bad S9.out.rd he4]
           omega
      ·have jsz : ((sz : Int) == 0) = false := by rw [beq_eq_false_iff_ne]; omega
       have he3 : e3 = 0 := by
        by_cases h : e3 = 0
        ·exact h
        ·exact absurd ((HF3.out).1 h).1 hsz
       subst he3
       have hlt3 := (HF3.out.2 rfl).1
       go_wp2_with (at_builtin; go_must (refine app1N rfl _ _ 104 rfl Tryz.underlying104 eiNode w.heap.size (by rfl) (S3.out.later (show Below w3.heap.size w3 _ from bw)).ou (by rfl) (by first | rfl | simp) rfl (by simp [Value.oneCell']) (by have := HPL2.out; omega) mJ ?_))
       intro v5 w5 o5 g5 nb5
       have S5 := hH ((S3.out.later (show Below w3.heap.size w3 (w3.alloc (.cells #[.slice none 0 0, .int .i64 0, .int .i64 0, .int .i64 0, .int .i64 (sz : Int)] 112)) from bw)).add (n := leafN sz) (cv := .slice none 0 0) (ints_nil _ _ _ _ (by omega)) (fun h => absurd rfl h) (by simpa [rowN, leafN] using o5) g5 nb5)
       clear o5 g5 nb5
       go_wp2_with fail
       go_roundw
       case rel => exact ⟨p3, _, 0, rest, ps2 ++ [(leafN sz, .slice none 0 0)], S5.out, hp3, fun Rz hr => HRUN.out Rz (Run.leaf (by omega) HR3.out hsz (by rw [List.map_append, HPM.out] at hr; exact hr)), fun _ => ⟨by rw [List.length_append, HPL2.out]; show pn + 1 ≤ p3; omega, by rw [List.length_append, HPL2.out, HRL.out]; show rl ≤ 2 * (pn + 1) + 1; omega⟩, fun m hm => by have := HOFR.out m hm; have := HPN.out; rw [List.length_append, HPL2.out]; show m.2 < ((pn + 1 : Nat) : Int); omega⟩
       case measure => rw [rdMeas_ok S5.out.rd, rdMeas_ok HS.out.rd]; omega
   ·have je : (e' != 0) = true := by simp [he]
    have je2 : (e' == 0) = false := by simp [he]
    have HRZ := hH (res_none (HRES.out ▸ HRN.out _ (HRUN.out _ (Run.bad he))))
    rw [List.length_cons] at HS ⊢
    have i1 : (0 : Int) < (rest.length : Int) + 1 := by omega
    clear he
    go_wp2_with fail
    refine (err_any HS.out.rd).mono ?_
    rintro e w1 ⟨rfl, rfl⟩
    go_wp2_with fail
    refine (err_any HS.out.rd).mono ?_
    rintro e w1 ⟨rfl, rfl⟩
    go_wp2_with fail
    go_ret
    rw [HRZ.out]
    exact NodesTo.none HS.out.to
end Go.Proofs.YtgobbecpnjelmaaGreat
