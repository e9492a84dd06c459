/-
  FlatY: Walk of copseref15.Cells.
-/
import Derived.Test.YtjmjnkilgoelbaaJ2b
import Derived.Test.YtjmjnkilgoelbaaKFlatV
import Derived.Test.YtjmjnkilgoelbaaJ1a
import Derived.Test.YtjmjnkilgoelbaaJ0a
namespace Go.Proofs.Ytjmjnkilgoelbaa
open Go.RowKit

/-- Cells' state: the arrays under way, in rows of the call's own. -/
structure RcSt (w U : World) (d : Int) (vs : List Value) (ls : List (List Int)) : Prop where
  bel : Below w.heap.size w U
  rR : ∃ cs, RowAt U w.heap.size 101 cs ∧ cs.size = 8
  fa : FlatAt U (w.heap.size + 1 + 1) (w.heap.size + 1) d vs ls

theorem RcSt.below {w U U' : World} {d : Int} {vs : List Value} {ls : List (List Int)} (S : RcSt w U d vs ls) (h : Below U.heap.size U U') : RcSt w U' d vs ls := by
  obtain ⟨cs, h1, h2⟩ := S.rR
  exact ⟨S.bel.trans (h.mono S.bel.size), ⟨cs, (h.block _ h1.lt).trans h1, h2⟩, S.fa.below h⟩

theorem RcSt.keepP {w U U1 w1 : World} {d : Int} {vs : List Value} {ls : List (List Int)} (S : RcSt w U d vs ls) (h : Below U.heap.size U U1) {k : Nat} {v : Value} (hv : vs[k]? = some v) (hg : U1.grownBy w1 v.ownBlock) :
    (∀ j, w1.cell? ⟨w.heap.size + 1, j, none⟩ = U.cell? ⟨w.heap.size + 1, j, none⟩) ∧ (∀ j, w1.frozen? ⟨w.heap.size + 1, j, none⟩ = U.frozen? ⟨w.heap.size + 1, j, none⟩) ∧ w.heap.size + 1 < w1.heap.size := by
  have hl := S.fa.lt
  have hz := h.size
  have hP : w1.heap[w.heap.size + 1]? = U.heap[w.heap.size + 1]? := (hg.block _ (by omega) fun e => (S.fa.others hv (b := w.heap.size + 1) (by simp)).2.1 e.symm).trans (h.block _ hl)
  exact ⟨fun j => World.cell?_of_block (a := ⟨_, j, none⟩) hP, fun j => World.frozen?_of_block (a := ⟨_, j, none⟩) hP, by have := hg.size; omega⟩

theorem RcSt.app {w U U1 w1 : World} {d : Int} {vs : List Value} {ls : List (List Int)} (S : RcSt w U d vs ls) {k : Nat} {v v' : Value} {l' : List Int} (hv : vs[k]? = some v) (h : Below U.heap.size U U1) (hg : U1.grownBy w1 v.ownBlock)
    (hr : w1.ownsRow (w.heap.size + 1 + 1) 3 1 v' l'.length (intF l')) (hn : NewB U1 v v') :
    RcSt w (w1.setCell ⟨w.heap.size + 1, k + 1, none⟩ v') d (vs.set k v') (ls.set k l') ∧ OnlyIn ((w.heap.size + 1) :: rowsB vs) U (w1.setCell ⟨w.heap.size + 1, k + 1, none⟩ v') ∧
      ∀ x, x ∈ (w.heap.size + 1) :: rowsB (vs.set k v') → x ∈ (w.heap.size + 1) :: rowsB vs ∨ U.heap.size ≤ x := by
  obtain ⟨h1, h2, h3⟩ := (S.below h).fa.setRow hv hg hr hn
  have h4 : OnlyIn ((w.heap.size + 1) :: rowsB vs) U (w1.setCell ⟨w.heap.size + 1, k + 1, none⟩ v') := (OnlyIn.ofBelow (F := (w.heap.size + 1) :: rowsB vs) h).trans h2 fun x hx => .inl hx
  have hlow : ∀ b, b ∈ (w.heap.size + 1) :: rowsB vs → w.heap.size + 1 ≤ b := fun b hb => by
    rcases List.mem_cons.1 hb with rfl | hb
    · omega
    · have := S.fa.low hb; omega
  refine ⟨⟨S.bel.trans (h4.below (fun b hb => by have := hlow b hb; omega) S.bel.size), ?_, h1⟩, h4, fun x hx => (h3 x hx).imp id fun hz => Nat.le_trans h.size hz⟩
  obtain ⟨cs, c1, c2⟩ := S.rR
  exact ⟨cs, (h4.block _ c1.lt fun hm => by have := hlow _ hm; omega).trans c1, c2⟩

theorem RcSt.dim {w U : World} {d : Int} {vs : List Value} {ls : List (List Int)} (S : RcSt w U d vs ls) (d' : Int) : RcSt w (U.setCell ⟨w.heap.size + 1, 0, none⟩ (.int .i64 d')) d' vs ls := by
  obtain ⟨h1, h2⟩ := S.fa.setDim d'
  obtain ⟨cs, c1, c2⟩ := S.rR
  exact ⟨S.bel.setCell (by show w.heap.size ≤ w.heap.size + 1; omega) _, ⟨cs, (Below.heap_setCell _ _ _ _ (by show w.heap.size ≠ w.heap.size + 1; omega)).trans c1, c2⟩, h1⟩

/-- The same, with the depths and the node's box. -/
structure RcX (w U : World) (d : Int) (vs : List Value) (ls : List (List Int)) (vd : Value) (ds : List Int) (N : Nat) (cs : Array Value) : Prop where
  st : RcSt w U d vs ls
  ds : IntsOff U ((w.heap.size + 1) :: rowsB vs) vd ds
  nb : RowAt U N 190 cs
  na : Apart U ((w.heap.size + 1) :: rowsB vs) N

theorem RcX.app {w U U1 w1 : World} {d : Int} {vs : List Value} {ls : List (List Int)} {vd : Value} {ds : List Int} {N : Nat} {cs : Array Value} (S : RcX w U d vs ls vd ds N cs) {k : Nat} {v v' : Value} {l' : List Int} (hv : vs[k]? = some v) (h : Below U.heap.size U U1) (hg : U1.grownBy w1 v.ownBlock)
    (hr : w1.ownsRow (w.heap.size + 1 + 1) 3 1 v' l'.length (intF l')) (hn : NewB U1 v v') :
    RcX w (w1.setCell ⟨w.heap.size + 1, k + 1, none⟩ v') d (vs.set k v') (ls.set k l') vd ds N cs := by
  obtain ⟨h1, h2, h3⟩ := S.st.app hv h hg hr hn
  exact ⟨h1, S.ds.step h2 h3, ((S.na.step h2 h3).2).trans S.nb, (S.na.step h2 h3).1⟩

theorem RcX.mid {w U U1 w1 : World} {d : Int} {vs : List Value} {ls : List (List Int)} {vd : Value} {ds : List Int} {N : Nat} {cs : Array Value} (S : RcX w U d vs ls vd ds N cs) {k : Nat} {v : Value} (hv : vs[k]? = some v) (h : Below U.heap.size U U1) (hg : U1.grownBy w1 v.ownBlock) : RowAt w1 N 190 cs :=
  (hg.block N (by have := S.na.1; have := h.size; omega) fun e => S.na.2 (mem_rowsB hv e.symm |> fun hm => List.mem_cons.2 (.inr hm))).trans ((h.block N S.na.1).trans S.nb)

/-- What stands behind k nodes of the tree. -/
def rcLs (l : List TreeP) (t : TreeP) (s k : Nat) : List (List Int) := [startsL 0 l ++ [(s : Int)], coefsL l ++ (t.nodes.take k).flatMap (coefN t.dim), atL l ++ (t.nodes.take k).map (fun n => n.at_), leftL 0 l ++ (t.nodes.take k).map (leftN s), rightL 0 l ++ (t.nodes.take k).map (rightN s), addsL l ++ (addT t).take k, sizeL l ++ (t.nodes.take k).map (fun n => n.size)]

theorem rcLs_next {l : List TreeP} {t : TreeP} {s k : Nat} {n : NodeP} (h : t.nodes[k]? = some n) : rcLs l t s (k + 1) = [startsL 0 l ++ [(s : Int)], coefsL l ++ (t.nodes.take k).flatMap (coefN t.dim) ++ coefN t.dim n, atL l ++ (t.nodes.take k).map (fun n => n.at_) ++ [n.at_], leftL 0 l ++ (t.nodes.take k).map (leftN s) ++ [leftN s n], rightL 0 l ++ (t.nodes.take k).map (rightN s) ++ [rightN s n], addsL l ++ (addT t).take k ++ [addN t k n], sizeL l ++ (t.nodes.take k).map (fun n => n.size) ++ [n.size]] := by
  have e : t.nodes.take (k + 1) = t.nodes.take k ++ [n] := by rw [List.take_add_one, h]; rfl
  have e2 : (addT t).take (k + 1) = (addT t).take k ++ [addN t k n] := by
    rw [List.take_add_one]
    unfold addT
    rw [List.getElem?_mapIdx, h]
    rfl
  unfold rcLs
  rw [e, e2]
  simp

theorem rcLs_all {l : List TreeP} {t : TreeP} : rcLs l t (lenTs l) t.nodes.length = flatL (l ++ [t]) := by
  unfold rcLs flatL
  rw [List.take_length, List.take_of_length_le (by simp [addT]), startsL_append, leftL_append, rightL_append]
  unfold coefsL atL addsL sizeL
  simp [startsL, leftL, rightL, coefT, atT, sizeT, leftT, rightT]

theorem rcLs_zero {l : List TreeP} {t : TreeP} {s : Nat} : rcLs l t s 0 = [startsL 0 l ++ [(s : Int)], coefsL l, atL l, leftL 0 l, rightL 0 l, addsL l, sizeL l] := by
  unfold rcLs
  simp

set_option maxRecDepth 100000 in
set_option maxHeartbeats 8000000 in
theorem rcells_any (v : Value) (l : List TreeP) (w : World) (h : TreesR w v l) (hall : ∀ t ∈ l, treeB t = true ∧ t.dim = dimL l) (h16 : l.length ≤ 16) :
    Calls Try.prog 65 #[v] w fun e w' => ∃ u1 u2 u3 u4 u5 u6 u7, e = .returned (.agg #[.int .i64 (dimL l), u1, u2, u3, u4, u5, u6, u7]) ∧
      (∀ (j : Nat) (v : Value) (r : List Int), [u1, u2, u3, u4, u5, u6, u7][j]? = some v → (flatL l)[j]? = some r → Ints .i64 w' v r) ∧ Below w.heap.size w w' := by
  have HTR := Lib.hid h
  obtain ⟨ad, cc, rfl, _, _, q3, hcell⟩ := h
  obtain ⟨n, hn⟩ : ∃ n, l.length = n := ⟨_, rfl⟩
  have HL := Lib.hid hn
  rw [hn] at q3 HTR h16 ⊢
  have HOK := Lib.hid hall
  have HC := Lib.hid (show ∀ i t, l[i]? = some t → ∃ b o nv, ad = some ⟨b, o, none⟩ ∧ b < w.heap.size ∧ w.cell? ⟨b, o + i * 2, none⟩ = some (.int .i64 t.dim) ∧ w.cell? ⟨b, o + i * 2 + 1, none⟩ = some nv ∧ NodesR w nv t.nodes from hcell)
  clear hcell hall hn
  have hn16 : (n : Int) ≤ 16 := by omega
  obtain ⟨DL, hDL⟩ : ∃ x, dimL l = x := ⟨_, rfl⟩
  rw [hDL]
  have HDL0 := Lib.hid hDL
  clear hDL
  go_enter Try.func65, Try.ntmps65
  go_wp2_with fail
  obtain ⟨U0, hU0⟩ : ∃ U, (w.alloc (.cells #[.int .i64 0, .slice none 0 0, .slice none 0 0, .slice none 0 0, .slice none 0 0, .slice none 0 0, .slice none 0 0, .slice none 0 0] 101)).alloc (.cells #[.int .i64 0, .slice none 0 0, .slice none 0 0, .slice none 0 0, .slice none 0 0, .slice none 0 0, .slice none 0 0, .slice none 0 0] 101) = U := ⟨_, rfl⟩
  rw [hU0]
  have S0 := Lib.hid (show RcSt w U0 0 [.slice none 0 0, .slice none 0 0, .slice none 0 0, .slice none 0 0, .slice none 0 0, .slice none 0 0, .slice none 0 0] [[], [], [], [], [], [], []] from by
    have hB : Below w.heap.size w U0 := by rw [← hU0]; (repeat (first | with_reducible exact Below.refl _ _ | with_reducible refine Bs ?_ | with_reducible refine Ba ?_ | with_reducible refine Bd ?_ | with_reducible refine Bn ?_))
    have hr : RowAt U0 (w.heap.size + 1) 101 #[.int .i64 0, .slice none 0 0, .slice none 0 0, .slice none 0 0, .slice none 0 0, .slice none 0 0, .slice none 0 0, .slice none 0 0] := by rw [← hU0]; exact row_new (by simp)
    have hR : RowAt U0 w.heap.size 101 #[.int .i64 0, .slice none 0 0, .slice none 0 0, .slice none 0 0, .slice none 0 0, .slice none 0 0, .slice none 0 0, .slice none 0 0] := by
      rw [← hU0]
      exact (show Below (w.heap.size + 1) _ _ from by (repeat (first | with_reducible exact Below.refl _ _ | with_reducible refine Bs ?_ | with_reducible refine Ba ?_ | with_reducible refine Bd ?_ | with_reducible refine Bn ?_))).block _ (by omega) |>.trans (row_new (W := w) rfl)
    have hRB : rowsB [.slice none 0 0, .slice none 0 0, .slice none 0 0, .slice none 0 0, .slice none 0 0, .slice none 0 0, .slice none 0 0] = [] := rfl
    refine ⟨hB, ⟨_, hR, rfl⟩, ⟨hr.lt, rfl, (hr.cell 0).trans rfl, hr.frozen 0, fun k v hv => ?_, fun k v r hv hrr => ?_, by rw [hRB]; simp⟩⟩
    · rcases k with _ | _ | _ | _ | _ | _ | _ | k
      all_goals first
        | (simp only [List.getElem?_cons_succ, List.getElem?_cons_zero, Option.some.injEq] at hv; subst hv; exact ⟨(hr.cell _).trans rfl, hr.frozen _⟩)
        | (simp at hv; done)
    · rcases k with _ | _ | _ | _ | _ | _ | _ | k
      all_goals first
        | (simp only [List.getElem?_cons_succ, List.getElem?_cons_zero, Option.some.injEq] at hv hrr; subst hv hrr; exact World.ownsRow_nil _ _ _ _)
        | (simp at hv; done))
  clear hU0
  go_loopw [4, 5, 6, 7, 8] (fun i _ _ _ _ wr => ∃ (k : Nat) (d : Int) (u0 u1 u2 u3 u4 u5 u6 : Value), i = .int .i64 k ∧ k ≤ n ∧ RcSt w wr d [u0, u1, u2, u3, u4, u5, u6] (flatL (l.take k)) ∧ d = dimL (l.take k)) (fun i _ _ _ _ _ => n - (intOf i).toNat)
  case atStart => exact ⟨0, 0, _, _, _, _, _, _, _, rfl, by omega, S0.out, rfl⟩
  case round =>
    obtain ⟨i, d, u0, u1, u2, u3, u4, u5, u6, rfl, hi, hst, hd⟩ := hrel
    have S1 := Lib.hid hst
    have HD := Lib.hid hd
    have hz1 := hst.bel.size
    clear hst hd S0
    by_cases hlt : i < n
    · obtain ⟨t, ht⟩ := getElem?_ex (l := l) (k := i) (by rw [HL.out]; exact hlt)
      obtain ⟨b, o, nv, rfl, hb, c0, c1, hnv⟩ := HC.out i t ht
      have hT := HOK.out t (List.mem_of_getElem? ht)
      have hTB := treeB_true.1 hT.1
      have hTl := hTB.len
      have hTd := treeB_dim hT.1
      have HTT := Lib.hid (show TreeR w (.agg #[.int .i64 t.dim, nv]) t from ⟨nv, rfl, hnv⟩)
      have HT := Lib.hid hT.1
      have HTk := Lib.hid (show l.take (i + 1) = l.take i ++ [t] by rw [List.take_add_one, ht]; rfl)
      have HTi := Lib.hid ht
      obtain ⟨lk, hlk⟩ : ∃ x, l.take i = x := ⟨_, rfl⟩
      rw [hlk] at S1 HTk HD
      have hlkm : ∀ x ∈ lk, treeB x = true ∧ x.dim = dimL l := fun x hx => HOK.out x (by rw [← hlk] at hx; exact List.mem_of_mem_take hx)
      have hlkl : lk.length ≤ 15 := by rw [← hlk, List.length_take]; omega
      have hq : lenTs lk ≤ 15 * 127 := by
        have g1 := lenTs_le (l := lk) (b := 127) fun x hx => (treeB_true.1 (hlkm x hx).1).len.2
        have := Nat.mul_le_mul_right 127 hlkl
        omega
      have hcq : (coefsL lk).length ≤ 15240 := by
        rw [coefsL_len lk hlkm]
        have g2 : (dimL l).toNat ≤ 8 := by omega
        have := Nat.mul_le_mul hq g2
        omega
      have HCQ := Lib.hid hcq
      obtain ⟨na, nc, rfl, _⟩ := hnv
      have HA := Lib.hid (Ints.own (S1.out.fa.rows 2 u2 (atL lk) rfl rfl) (by rw [atL_len]; omega)).2.shape
      obtain ⟨a2', c2', hu2⟩ := HA.out
      subst hu2
      rw [atL_len] at S1
      obtain ⟨s, hs⟩ : ∃ n, lenTs lk = n := ⟨_, rfl⟩
      rw [hs] at S1 hq
      have HS := Lib.hid hs
      obtain ⟨m, hm⟩ : ∃ n, t.nodes.length = n := ⟨_, rfl⟩
      rw [hm] at c1 HTT hTl
      have HM := Lib.hid hm
      obtain ⟨D, hD⟩ : ∃ n, t.dim = n := ⟨_, rfl⟩
      rw [hD] at c0 HTT hTd
      have HDD := Lib.hid hD
      have HDL := Lib.hid hT.2
      have HDE := Lib.hid (fun W (hW : Below w.heap.size w W) => rdepths_fresh _ t W (HTT.out.below hW))
      simp only [hT.1, if_true] at HDE
      obtain ⟨ds, hds⟩ : ∃ x, (List.range t.nodes.length).map (fun i => (depOf t i : Int)) = x := ⟨_, rfl⟩
      rw [hds] at HDE
      have HDS := Lib.hid (show ∀ k, k < m → ds[k]? = some (depOf t k : Int) from fun k hk => by rw [← hds, List.getElem?_map, List.getElem?_range (by rw [hm]; exact hk)]; rfl)
      have HDN := Lib.hid (show ds.length = m by rw [← hds, List.length_map, List.length_range, hm])
      clear hlk hlkm hlkl hcq hs hm hD hds ht hT hTB
      have e0 : wr.cell? ⟨b, o + i * 2, none⟩ = some (.int .i64 D) := (S1.out.bel.cell (p := ⟨b, o + i * 2, none⟩) hb).trans c0
      have e1 : wr.cell? ⟨b, o + i * 2 + 1, none⟩ = some (.slice na m nc) := (S1.out.bel.cell (p := ⟨b, o + i * 2 + 1, none⟩) hb).trans c1
      have i1 : (0 : Int) ≤ (i : Int) := by omega
      have i2 : (i : Int) < (n : Int) := by omega
      have p0 : wr.cell? ⟨w.heap.size + 1, 0, none⟩ = some (.int .i64 d) := S1.out.fa.c0
      have q0 : wr.frozen? ⟨w.heap.size + 1, 0, none⟩ = false := S1.out.fa.f0
      have hPz : w.heap.size + 1 < wr.heap.size := S1.out.fa.lt
      have hbz : b < wr.heap.size := by omega
      have hbP : b ≠ w.heap.size + 1 := by omega
      go_upto_region 6 with fail
      obtain ⟨V, hV⟩ : ∃ U, wr.setCell ⟨w.heap.size + 1, 0, none⟩ (.int .i64 D) = U := ⟨_, rfl⟩
      have sa := S1.out.dim D
      rw [hV] at sa
      have S2 := Lib.hid sa
      have BV := Lib.hid (show Below (w.heap.size + 1) wr V from by rw [← hV]; (repeat (first | with_reducible exact Below.refl _ _ | with_reducible refine Bs ?_ | with_reducible refine Ba ?_ | with_reducible refine Bd ?_ | with_reducible refine Bn ?_)))
      have HVZ := Lib.hid (show V.heap.size = wr.heap.size by rw [← hV]; simp)
      rw [hV]
      clear hV sa S1 p0 q0 e0 e1 HA
      have p3 : V.cell? ⟨w.heap.size + 1, 3, none⟩ = some (.slice a2' s c2') := (S2.out.fa.cs 2 _ rfl).1
      have p1 : V.cell? ⟨w.heap.size + 1, 1, none⟩ = some u0 := (S2.out.fa.cs 0 _ rfl).1
      have q1 : V.frozen? ⟨w.heap.size + 1, 1, none⟩ = false := (S2.out.fa.cs 0 _ rfl).2
      have hPz : w.heap.size + 1 < V.heap.size := S2.out.fa.lt
      go_upto_region 8 with (at_builtin; go_must (refine appI rfl _ _ rfl (w.heap.size + 1 + 1) (by rfl) ((S2.out.fa.below (show Below V.heap.size V (V.alloc (.cells #[.int .i64 (s : Int)] 3)) from by (repeat (first | with_reducible exact Below.refl _ _ | with_reducible refine Bs ?_ | with_reducible refine Ba ?_ | with_reducible refine Bd ?_ | with_reducible refine Bn ?_)))).rows 0 _ (startsL 0 lk) rfl rfl) (by rfl) (Ints.new' .i64 _ 3 #[.int .i64 (s : Int)] [(s : Int)] _ 1 1 (by rfl) (by rfl) (by rfl) (by omega) (by omega)) (by rw [startsL_len]; simp; have := (List.getElem?_eq_some_iff.1 HTi.out).1; rw [HL.out] at this; have h5 := congrArg List.length HTk.out; simp at h5; rw [HL.out] at h5; omega) (by simp; omega) ?_))
      intro va wa oa ga nba
      obtain ⟨aS, yS, cS, rfl⟩ := own_shape oa
      have kp := S2.out.keepP (show Below V.heap.size V _ from by (repeat (first | with_reducible exact Below.refl _ _ | with_reducible refine Bs ?_ | with_reducible refine Ba ?_ | with_reducible refine Bd ?_ | with_reducible refine Bn ?_))) (k := 0) rfl ga
      have z1 : wa.cell? ⟨w.heap.size + 1, 1, none⟩ = some u0 := (kp.1 1).trans p1
      have z2 : wa.frozen? ⟨w.heap.size + 1, 1, none⟩ = false := (kp.2.1 1).trans q1
      have z3 := kp.2.2
      have SA := Lib.hid (S2.out.app (k := 0) (l' := startsL 0 lk ++ [(s : Int)]) rfl (show Below V.heap.size V _ from by (repeat (first | with_reducible exact Below.refl _ _ | with_reducible refine Bs ?_ | with_reducible refine Ba ?_ | with_reducible refine Bd ?_ | with_reducible refine Bn ?_))) ga (by simpa using oa) nba).1
      clear kp oa ga nba p1 q1 p3
      go_upto_region 8 with fail
      obtain ⟨U1, hU⟩ : ∃ U, wa.setCell ⟨w.heap.size + 1, 1, none⟩ (.slice aS yS cS) = U := ⟨_, rfl⟩
      have sa := SA.out
      simp only [Nat.zero_add] at sa
      rw [hU] at sa
      rw [hU]
      have S3 := Lib.hid (show RcSt w U1 D [.slice aS yS cS, u1, .slice a2' s c2', u3, u4, u5, u6] (rcLs lk t s 0) from by rw [rcLs_zero]; exact sa)
      clear sa hU SA z1 z2 z3 S2 BV HVZ
      have e0 : U1.cell? ⟨b, o + i * 2, none⟩ = some (.int .i64 D) := (S3.out.bel.cell (p := ⟨b, o + i * 2, none⟩) hb).trans c0
      have e1 : U1.cell? ⟨b, o + i * 2 + 1, none⟩ = some (.slice na m nc) := (S3.out.bel.cell (p := ⟨b, o + i * 2 + 1, none⟩) hb).trans c1
      go_wp2_with fail
      (with_reducible refine (HDE.out _ S3.out.bel).mono ?_)
      rintro e w4 ⟨vd, rfl, hdi, hdf, hb4⟩
      obtain ⟨da, dc, rfl⟩ := hdi.shape
      have S4 := Lib.hid (S3.out.below hb4)
      have DO := Lib.hid (show IntsOff w4 ((w.heap.size + 1) :: rowsB [.slice aS yS cS, u1, .slice a2' s c2', u3, u4, u5, u6]) (.slice da ds.length dc) ds from IntsOff.new hdi hdf (by rw [HDN.out]; omega) fun x hx => S3.out.fa.foot hx)
      clear hdi hdf hb4 e0 e1 S3
      go_wp2_with fail
      go_loopw [7, 8] (fun kk _ wr => ∃ (j : Nat) (y1 y2 y3 y4 y5 y6 : Value), kk = .int .i64 j ∧ j ≤ m ∧ RcSt w wr D [.slice aS yS cS, y1, y2, y3, y4, y5, y6] (rcLs lk t s j) ∧ IntsOff wr ((w.heap.size + 1) :: rowsB [.slice aS yS cS, y1, y2, y3, y4, y5, y6]) (.slice da ds.length dc) ds) (fun kk _ _ => m - (intOf kk).toNat)
      case atStart => exact ⟨0, _, _, _, _, _, _, rfl, by omega, S4.out, DO.out⟩
      case round =>
        obtain ⟨k, y1, y2, y3, y4, y5, y6, rfl, hk, hst, hdo⟩ := hrel
        have SK := Lib.hid hst
        have DK := Lib.hid hdo
        have hzk := hst.bel.size
        have e1 : wr.cell? ⟨b, o + i * 2 + 1, none⟩ = some (.slice na m nc) := (hst.bel.cell (p := ⟨b, o + i * 2 + 1, none⟩) hb).trans c1
        have hbk : b < wr.heap.size := by omega
        clear hst hdo S4 DO
        by_cases hlk : k < m
        · obtain ⟨nd, hnd⟩ := getElem?_ex (l := t.nodes) (k := k) (by rw [HM.out]; exact hlk)
          obtain ⟨bn, on, rfl⟩ := HTT.out.addr (i := k) (by rw [HM.out]; exact hlk)
          obtain ⟨hbw, hat⟩ := HTT.out.node hnd
          obtain ⟨cca, ccc, hci, x0, x1, x2, x3, x4⟩ := hat.val
          replace x0 := (SK.out.bel.cell (p := ⟨bn, _, none⟩) hbw).trans x0
          replace x1 := (SK.out.bel.cell (p := ⟨bn, _, none⟩) hbw).trans x1
          replace x2 := (SK.out.bel.cell (p := ⟨bn, _, none⟩) hbw).trans x2
          replace x3 := (SK.out.bel.cell (p := ⟨bn, _, none⟩) hbw).trans x3
          replace x4 := (SK.out.bel.cell (p := ⟨bn, _, none⟩) hbw).trans x4
          have HCI := Lib.hid hci
          have HND := Lib.hid hnd
          have hbnk : bn < wr.heap.size := by omega
          have j1 : (0 : Int) ≤ (k : Int) := by omega
          have j2 : (k : Int) < (m : Int) := by omega
          clear hnd hat hci
          have htk : (t.nodes.take k).length ≤ 127 := by rw [List.length_take]; omega
          have HPN := Lib.hid (rcLs_next (l := lk) (s := s) HND.out)
          obtain ⟨SB, hSB⟩ : ∃ L, startsL 0 lk ++ [(s : Int)] = L := ⟨_, rfl⟩
          obtain ⟨LC, hLC⟩ : ∃ L, coefsL lk ++ (t.nodes.take k).flatMap (coefN t.dim) = L := ⟨_, rfl⟩
          obtain ⟨LA, hLA⟩ : ∃ L, atL lk ++ (t.nodes.take k).map (fun n => n.at_) = L := ⟨_, rfl⟩
          obtain ⟨LL, hLL⟩ : ∃ L, leftL 0 lk ++ (t.nodes.take k).map (leftN s) = L := ⟨_, rfl⟩
          obtain ⟨LR, hLR⟩ : ∃ L, rightL 0 lk ++ (t.nodes.take k).map (rightN s) = L := ⟨_, rfl⟩
          obtain ⟨LD, hLD⟩ : ∃ L, addsL lk ++ (addT t).take k = L := ⟨_, rfl⟩
          obtain ⟨LZ, hLZ⟩ : ∃ L, sizeL lk ++ (t.nodes.take k).map (fun n => n.size) = L := ⟨_, rfl⟩
          have BC := Lib.hid (show LC.length ≤ 16384 from by
            rw [← hLC, List.length_append, flat_const _ (fun x hx => coefN_len HT.out (List.mem_of_mem_take hx))]
            have hd8 : t.dim.toNat ≤ 8 := by rw [HDD.out]; omega
            have := Nat.mul_le_mul htk hd8
            have := HCQ.out
            omega)
          have BA := Lib.hid (show LA.length ≤ 2032 from by rw [← hLA, List.length_append, atL_len, HS.out, List.length_map]; omega)
          have BL := Lib.hid (show LL.length ≤ 2032 from by rw [← hLL, List.length_append, leftL_len, HS.out, List.length_map]; omega)
          have BR := Lib.hid (show LR.length ≤ 2032 from by rw [← hLR, List.length_append, rightL_len, HS.out, List.length_map]; omega)
          have BD := Lib.hid (show LD.length ≤ 2032 from by rw [← hLD, List.length_append, addsL_len, HS.out, List.length_take]; omega)
          have BZ := Lib.hid (show LZ.length ≤ 2032 from by rw [← hLZ, List.length_append, sizeL_len, HS.out, List.length_map]; omega)
          rw [hSB, hLC, hLA, hLL, hLR, hLD, hLZ] at HPN
          have SP := SK.out
          rw [show rcLs lk t s k = [SB, LC, LA, LL, LR, LD, LZ] from by unfold rcLs; rw [hSB, hLC, hLA, hLL, hLR, hLD, hLZ]] at SP
          obtain ⟨N, hN⟩ : ∃ N, wr.heap.size = N := ⟨_, rfl⟩
          go_upto_region 13 with fail
          obtain ⟨U1, hU1⟩ : ∃ U, wr.alloc (.cells #[.slice cca nd.coef.length ccc, .int .i64 nd.at_, .int .i64 nd.left, .int .i64 nd.right, .int .i64 nd.size] 190) = U := ⟨_, rfl⟩
          have bk : Below wr.heap.size wr U1 := by rw [← hU1]; (repeat (first | with_reducible exact Below.refl _ _ | with_reducible refine Bs ?_ | with_reducible refine Ba ?_ | with_reducible refine Bd ?_ | with_reducible refine Bn ?_))
          have X1 := Lib.hid (show RcX w U1 D [.slice aS yS cS, y1, y2, y3, y4, y5, y6] [SB, LC, LA, LL, LR, LD, LZ] (.slice da ds.length dc) ds N #[.slice cca nd.coef.length ccc, .int .i64 nd.at_, .int .i64 nd.left, .int .i64 nd.right, .int .i64 nd.size] from ⟨SP.below bk, DK.out.step (OnlyIn.ofBelow bk) fun x hx => .inl hx, by rw [← hU1]; exact row_new hN.symm, by rw [← hU1]; simp; omega, fun hm => by have := SP.fa.foot hm; omega⟩)
          rw [hU1]
          try simp only [hN]
          clear hSB hLC hLA hLL hLR hLD hLZ htk SP hU1 x0 x1 x2 x3 x4 hN bk
          have p3 : U1.cell? ⟨w.heap.size + 1, 3, none⟩ = some (y2) := (X1.out.st.fa.cs 2 _ rfl).1
          have q3 : U1.frozen? ⟨w.heap.size + 1, 3, none⟩ = false := (X1.out.st.fa.cs 2 _ rfl).2
          have hPz : w.heap.size + 1 < U1.heap.size := X1.out.st.fa.lt
          have hNz : N < U1.heap.size := X1.out.na.1
          have n1 : U1.cell? ⟨N, 1, none⟩ = some (.int .i64 nd.at_) := (X1.out.nb.cell 1).trans rfl
          go_upto_region 14 with (at_builtin; go_must (refine appI rfl _ _ rfl (w.heap.size + 1 + 1) (by rfl) ((X1.out.st.fa.below (show Below U1.heap.size U1 (U1.alloc (.cells #[.int .i64 (nd.at_)] 3)) from by (repeat (first | with_reducible exact Below.refl _ _ | with_reducible refine Bs ?_ | with_reducible refine Ba ?_ | with_reducible refine Bd ?_ | with_reducible refine Bn ?_)))).rows 2 _ (LA) rfl rfl) (by rfl) (Ints.new' .i64 _ 3 #[.int .i64 (nd.at_)] [nd.at_] _ 1 1 (by rfl) (by rfl) (by rfl) (by omega) (by omega)) (by have := BA.out; simp; omega) (by simp; omega) ?_))
          intro vq1 wq1 oq1 gq1 nbq1
          obtain ⟨aq1, bq1, cq1, rfl⟩ := own_shape oq1
          have kp := X1.out.st.keepP (show Below U1.heap.size U1 _ from by (repeat (first | with_reducible exact Below.refl _ _ | with_reducible refine Bs ?_ | with_reducible refine Ba ?_ | with_reducible refine Bd ?_ | with_reducible refine Bn ?_))) (k := 2) rfl gq1
          have z1 : wq1.cell? ⟨w.heap.size + 1, 3, none⟩ = some (y2) := (kp.1 3).trans p3
          have z2 : wq1.frozen? ⟨w.heap.size + 1, 3, none⟩ = false := (kp.2.1 3).trans q3
          have z3 := kp.2.2
          have XA := Lib.hid (X1.out.app (k := 2) (l' := LA ++ [nd.at_]) rfl (show Below U1.heap.size U1 _ from by (repeat (first | with_reducible exact Below.refl _ _ | with_reducible refine Bs ?_ | with_reducible refine Ba ?_ | with_reducible refine Bd ?_ | with_reducible refine Bn ?_))) gq1 (by simpa using oq1) nbq1)
          clear kp oq1 gq1 nbq1
          clear p3 q3 hPz hNz n1
          go_upto_region 14 with fail
          obtain ⟨U2, hU⟩ : ∃ U, wq1.setCell ⟨w.heap.size + 1, 3, none⟩ (.slice aq1 bq1 cq1) = U := ⟨_, rfl⟩
          have xa := XA.out
          simp only [Nat.reduceAdd] at xa
          rw [hU] at xa
          rw [hU]
          have X2 := Lib.hid (show RcX w U2 D [.slice aS yS cS, y1, .slice aq1 bq1 cq1, y3, y4, y5, y6] [SB, LC, LA ++ [nd.at_], LL, LR, LD, LZ] (.slice da ds.length dc) ds N #[.slice cca nd.coef.length ccc, .int .i64 nd.at_, .int .i64 nd.left, .int .i64 nd.right, .int .i64 nd.size] from xa)
          clear xa hU XA z1 z2 z3
          have p7 : U2.cell? ⟨w.heap.size + 1, 7, none⟩ = some (y6) := (X2.out.st.fa.cs 6 _ rfl).1
          have q7 : U2.frozen? ⟨w.heap.size + 1, 7, none⟩ = false := (X2.out.st.fa.cs 6 _ rfl).2
          have hPz : w.heap.size + 1 < U2.heap.size := X2.out.st.fa.lt
          have hNz : N < U2.heap.size := X2.out.na.1
          have n4 : U2.cell? ⟨N, 4, none⟩ = some (.int .i64 nd.size) := (X2.out.nb.cell 4).trans rfl
          go_upto_region 15 with (at_builtin; go_must (refine appI rfl _ _ rfl (w.heap.size + 1 + 1) (by rfl) ((X2.out.st.fa.below (show Below U2.heap.size U2 (U2.alloc (.cells #[.int .i64 (nd.size)] 3)) from by (repeat (first | with_reducible exact Below.refl _ _ | with_reducible refine Bs ?_ | with_reducible refine Ba ?_ | with_reducible refine Bd ?_ | with_reducible refine Bn ?_)))).rows 6 _ (LZ) rfl rfl) (by rfl) (Ints.new' .i64 _ 3 #[.int .i64 (nd.size)] [nd.size] _ 1 1 (by rfl) (by rfl) (by rfl) (by omega) (by omega)) (by have := BZ.out; simp; omega) (by simp; omega) ?_))
          intro vq2 wq2 oq2 gq2 nbq2
          obtain ⟨aq2, bq2, cq2, rfl⟩ := own_shape oq2
          have kp := X2.out.st.keepP (show Below U2.heap.size U2 _ from by (repeat (first | with_reducible exact Below.refl _ _ | with_reducible refine Bs ?_ | with_reducible refine Ba ?_ | with_reducible refine Bd ?_ | with_reducible refine Bn ?_))) (k := 6) rfl gq2
          have z1 : wq2.cell? ⟨w.heap.size + 1, 7, none⟩ = some (y6) := (kp.1 7).trans p7
          have z2 : wq2.frozen? ⟨w.heap.size + 1, 7, none⟩ = false := (kp.2.1 7).trans q7
          have z3 := kp.2.2
          have XA := Lib.hid (X2.out.app (k := 6) (l' := LZ ++ [nd.size]) rfl (show Below U2.heap.size U2 _ from by (repeat (first | with_reducible exact Below.refl _ _ | with_reducible refine Bs ?_ | with_reducible refine Ba ?_ | with_reducible refine Bd ?_ | with_reducible refine Bn ?_))) gq2 (by simpa using oq2) nbq2)
          clear kp oq2 gq2 nbq2
          clear p7 q7 hPz hNz n4
          go_upto_region 15 with fail
          obtain ⟨U3, hU⟩ : ∃ U, wq2.setCell ⟨w.heap.size + 1, 7, none⟩ (.slice aq2 bq2 cq2) = U := ⟨_, rfl⟩
          have xa := XA.out
          simp only [Nat.reduceAdd] at xa
          rw [hU] at xa
          rw [hU]
          have X3 := Lib.hid (show RcX w U3 D [.slice aS yS cS, y1, .slice aq1 bq1 cq1, y3, y4, y5, .slice aq2 bq2 cq2] [SB, LC, LA ++ [nd.at_], LL, LR, LD, LZ ++ [nd.size]] (.slice da ds.length dc) ds N #[.slice cca nd.coef.length ccc, .int .i64 nd.at_, .int .i64 nd.left, .int .i64 nd.right, .int .i64 nd.size] from xa)
          clear xa hU XA z1 z2 z3
          cases hlf : leafB nd with
          | true =>
            have l1 := (leafB_is hlf).1
            have n2 : U3.cell? ⟨N, 2, none⟩ = some (.int .i64 0) := by rw [← l1]; exact (X3.out.nb.cell 2).trans rfl
            have hNz : N < U3.heap.size := X3.out.na.1
            have HL1 := Lib.hid l1
            clear l1
            go_upto_region 16 with fail
            clear n2 hNz
            have p2 : U3.cell? ⟨w.heap.size + 1, 2, none⟩ = some (y1) := (X3.out.st.fa.cs 1 _ rfl).1
            have q2 : U3.frozen? ⟨w.heap.size + 1, 2, none⟩ = false := (X3.out.st.fa.cs 1 _ rfl).2
            have hPz : w.heap.size + 1 < U3.heap.size := X3.out.st.fa.lt
            have hNz : N < U3.heap.size := X3.out.na.1
            have t0 : U3.cell? ⟨w.heap.size + 1, 0, none⟩ = some (.int .i64 D) := X3.out.st.fa.c0
            obtain ⟨vq3, wq3, rd, oq3, gq3, nbq3⟩ := run_appMake (w.heap.size + 1 + 1) (y1) LC D.toNat U3 (X3.out.st.fa.rows 1 _ LC rfl rfl) (by omega) (by have := BC.out; omega) (by omega) 61
            rw [show ((D.toNat : Nat) : Int) = D by omega] at rd
            have HRD := Lib.hid rd
            clear rd
            obtain ⟨aq3, bq3, cq3, rfl⟩ := own_shape oq3
            have kp := X3.out.st.keepP (show Below U3.heap.size U3 _ from by exact Below.refl _ _) (k := 1) rfl gq3
            have z1 : wq3.cell? ⟨w.heap.size + 1, 2, none⟩ = some (y1) := (kp.1 2).trans p2
            have z2 : wq3.frozen? ⟨w.heap.size + 1, 2, none⟩ = false := (kp.2.1 2).trans q2
            have z3 := kp.2.2
            have XA := Lib.hid (X3.out.app (k := 1) (l' := LC ++ List.replicate D.toNat 0) rfl (show Below U3.heap.size U3 _ from by exact Below.refl _ _) gq3 (by simpa using oq3) nbq3)
            clear kp oq3 gq3 nbq3
            go_upto_region 17 with (at_builtin; go_must (refine Lib.wpList_append_run _ rfl _ _ _ _ rfl _ _ rfl rfl _ _ HRD.out ?_))
            clear p2 q2 hPz hNz t0
            obtain ⟨U4, hU⟩ : ∃ U, wq3.setCell ⟨w.heap.size + 1, 2, none⟩ (.slice aq3 bq3 cq3) = U := ⟨_, rfl⟩
            have xa := XA.out
            simp only [Nat.reduceAdd] at xa
            rw [hU] at xa
            rw [hU]
            have X4 := Lib.hid (show RcX w U4 D [.slice aS yS cS, .slice aq3 bq3 cq3, .slice aq1 bq1 cq1, y3, y4, y5, .slice aq2 bq2 cq2] [SB, LC ++ List.replicate D.toNat 0, LA ++ [nd.at_], LL, LR, LD, LZ ++ [nd.size]] (.slice da ds.length dc) ds N #[.slice cca nd.coef.length ccc, .int .i64 nd.at_, .int .i64 nd.left, .int .i64 nd.right, .int .i64 nd.size] from xa)
            clear xa hU XA z1 z2 z3
            have p4 : U4.cell? ⟨w.heap.size + 1, 4, none⟩ = some (y3) := (X4.out.st.fa.cs 3 _ rfl).1
            have q4 : U4.frozen? ⟨w.heap.size + 1, 4, none⟩ = false := (X4.out.st.fa.cs 3 _ rfl).2
            have hPz : w.heap.size + 1 < U4.heap.size := X4.out.st.fa.lt
            have hNz : N < U4.heap.size := X4.out.na.1
            go_upto_region 18 with (at_builtin; go_must (refine appI rfl _ _ rfl (w.heap.size + 1 + 1) (by rfl) ((X4.out.st.fa.below (show Below U4.heap.size U4 (U4.alloc (.cells #[.int .i64 (0)] 3)) from by (repeat (first | with_reducible exact Below.refl _ _ | with_reducible refine Bs ?_ | with_reducible refine Ba ?_ | with_reducible refine Bd ?_ | with_reducible refine Bn ?_)))).rows 3 _ (LL) rfl rfl) (by rfl) (Ints.new' .i64 _ 3 #[.int .i64 (0)] [0] _ 1 1 (by rfl) (by rfl) (by rfl) (by omega) (by omega)) (by have := BL.out; simp; omega) (by simp; omega) ?_))
            intro vq4 wq4 oq4 gq4 nbq4
            obtain ⟨aq4, bq4, cq4, rfl⟩ := own_shape oq4
            have kp := X4.out.st.keepP (show Below U4.heap.size U4 _ from by (repeat (first | with_reducible exact Below.refl _ _ | with_reducible refine Bs ?_ | with_reducible refine Ba ?_ | with_reducible refine Bd ?_ | with_reducible refine Bn ?_))) (k := 3) rfl gq4
            have z1 : wq4.cell? ⟨w.heap.size + 1, 4, none⟩ = some (y3) := (kp.1 4).trans p4
            have z2 : wq4.frozen? ⟨w.heap.size + 1, 4, none⟩ = false := (kp.2.1 4).trans q4
            have z3 := kp.2.2
            have XA := Lib.hid (X4.out.app (k := 3) (l' := LL ++ [0]) rfl (show Below U4.heap.size U4 _ from by (repeat (first | with_reducible exact Below.refl _ _ | with_reducible refine Bs ?_ | with_reducible refine Ba ?_ | with_reducible refine Bd ?_ | with_reducible refine Bn ?_))) gq4 (by simpa using oq4) nbq4)
            clear kp oq4 gq4 nbq4
            clear p4 q4 hPz hNz
            go_upto_region 18 with fail
            obtain ⟨U5, hU⟩ : ∃ U, wq4.setCell ⟨w.heap.size + 1, 4, none⟩ (.slice aq4 bq4 cq4) = U := ⟨_, rfl⟩
            have xa := XA.out
            simp only [Nat.reduceAdd] at xa
            rw [hU] at xa
            rw [hU]
            have X5 := Lib.hid (show RcX w U5 D [.slice aS yS cS, .slice aq3 bq3 cq3, .slice aq1 bq1 cq1, .slice aq4 bq4 cq4, y4, y5, .slice aq2 bq2 cq2] [SB, LC ++ List.replicate D.toNat 0, LA ++ [nd.at_], LL ++ [0], LR, LD, LZ ++ [nd.size]] (.slice da ds.length dc) ds N #[.slice cca nd.coef.length ccc, .int .i64 nd.at_, .int .i64 nd.left, .int .i64 nd.right, .int .i64 nd.size] from xa)
            clear xa hU XA z1 z2 z3
            have p5 : U5.cell? ⟨w.heap.size + 1, 5, none⟩ = some (y4) := (X5.out.st.fa.cs 4 _ rfl).1
            have q5 : U5.frozen? ⟨w.heap.size + 1, 5, none⟩ = false := (X5.out.st.fa.cs 4 _ rfl).2
            have hPz : w.heap.size + 1 < U5.heap.size := X5.out.st.fa.lt
            have hNz : N < U5.heap.size := X5.out.na.1
            go_upto_region 19 with (at_builtin; go_must (refine appI rfl _ _ rfl (w.heap.size + 1 + 1) (by rfl) ((X5.out.st.fa.below (show Below U5.heap.size U5 (U5.alloc (.cells #[.int .i64 (0)] 3)) from by (repeat (first | with_reducible exact Below.refl _ _ | with_reducible refine Bs ?_ | with_reducible refine Ba ?_ | with_reducible refine Bd ?_ | with_reducible refine Bn ?_)))).rows 4 _ (LR) rfl rfl) (by rfl) (Ints.new' .i64 _ 3 #[.int .i64 (0)] [0] _ 1 1 (by rfl) (by rfl) (by rfl) (by omega) (by omega)) (by have := BR.out; simp; omega) (by simp; omega) ?_))
            intro vq5 wq5 oq5 gq5 nbq5
            obtain ⟨aq5, bq5, cq5, rfl⟩ := own_shape oq5
            have kp := X5.out.st.keepP (show Below U5.heap.size U5 _ from by (repeat (first | with_reducible exact Below.refl _ _ | with_reducible refine Bs ?_ | with_reducible refine Ba ?_ | with_reducible refine Bd ?_ | with_reducible refine Bn ?_))) (k := 4) rfl gq5
            have z1 : wq5.cell? ⟨w.heap.size + 1, 5, none⟩ = some (y4) := (kp.1 5).trans p5
            have z2 : wq5.frozen? ⟨w.heap.size + 1, 5, none⟩ = false := (kp.2.1 5).trans q5
            have z3 := kp.2.2
            have XA := Lib.hid (X5.out.app (k := 4) (l' := LR ++ [0]) rfl (show Below U5.heap.size U5 _ from by (repeat (first | with_reducible exact Below.refl _ _ | with_reducible refine Bs ?_ | with_reducible refine Ba ?_ | with_reducible refine Bd ?_ | with_reducible refine Bn ?_))) gq5 (by simpa using oq5) nbq5)
            clear kp oq5 gq5 nbq5
            clear p5 q5 hPz hNz
            go_upto_region 19 with fail
            obtain ⟨U6, hU⟩ : ∃ U, wq5.setCell ⟨w.heap.size + 1, 5, none⟩ (.slice aq5 bq5 cq5) = U := ⟨_, rfl⟩
            have xa := XA.out
            simp only [Nat.reduceAdd] at xa
            rw [hU] at xa
            rw [hU]
            have X6 := Lib.hid (show RcX w U6 D [.slice aS yS cS, .slice aq3 bq3 cq3, .slice aq1 bq1 cq1, .slice aq4 bq4 cq4, .slice aq5 bq5 cq5, y5, .slice aq2 bq2 cq2] [SB, LC ++ List.replicate D.toNat 0, LA ++ [nd.at_], LL ++ [0], LR ++ [0], LD, LZ ++ [nd.size]] (.slice da ds.length dc) ds N #[.slice cca nd.coef.length ccc, .int .i64 nd.at_, .int .i64 nd.left, .int .i64 nd.right, .int .i64 nd.size] from xa)
            clear xa hU XA z1 z2 z3
            have p6 : U6.cell? ⟨w.heap.size + 1, 6, none⟩ = some (y5) := (X6.out.st.fa.cs 5 _ rfl).1
            have q6 : U6.frozen? ⟨w.heap.size + 1, 6, none⟩ = false := (X6.out.st.fa.cs 5 _ rfl).2
            have hPz : w.heap.size + 1 < U6.heap.size := X6.out.st.fa.lt
            have hNz : N < U6.heap.size := X6.out.na.1
            have n4 : U6.cell? ⟨N, 4, none⟩ = some (.int .i64 nd.size) := (X6.out.nb.cell 4).trans rfl
            have l1 := HL1.out
            obtain ⟨_, _, hda, _, _, _, hdc⟩ := (X6.out.ds).1
            injection hda with hda hda2 hda3
            clear hda2 hda3
            obtain ⟨bd, od', hbd, hbl, dcell⟩ := hdc k _ (HDS.out k hlk)
            rw [hbd] at hda
            subst hda
            clear hbd hdc
            have hdl2 : ds.length = m := HDN.out
            have HDM := Lib.hid (show (k : Int) < ((ds.length : Nat) : Int) from by rw [hdl2]; exact j2)
            have hdm := HDM.out
            have HADD := Lib.hid (show addN t k nd = (depOf t k : Int) * 1073741824 + normI nd.size by unfold addN; rw [if_pos l1])
            have hsz := node_size (treeB_true.1 HT.out) HND.out
            have hnb : 0 ≤ normI nd.size ∧ normI nd.size ≤ 549755813888 := by have := norm_bd nd.size; unfold normI; omega
            have HNO := Lib.hid (fun W => rnorm_any nd.size W)
            have hd6 : depOf t k ≤ 6 := by
              obtain ⟨_, _, g, s', q, h1, h2⟩ := treeB_true.1 HT.out
              have := q.dep 6 (Nat.le_trans h2 (logI_le h1)) k (by omega) (by rw [HM.out]; exact hlk)
              unfold depOf
              have := logI_le h1
              omega
            obtain ⟨nz, hnz⟩ : ∃ z, normI nd.size = z := ⟨_, rfl⟩
            rw [hnz] at HADD HNO hnb
            obtain ⟨dk, hdk⟩ : ∃ z, depOf t k = z := ⟨_, rfl⟩
            rw [hdk] at HADD dcell hd6
            have hw1 : IntKind.i64.wrap ((dk : Int) * 1073741824) = (dk : Int) * 1073741824 := by rw [IntKind.wrap_i64]; omega
            have hw2 : IntKind.i64.wrap ((dk : Int) * 1073741824 + nz) = (dk : Int) * 1073741824 + nz := by rw [IntKind.wrap_i64]; omega
            have MC := Lib.hid (show ∀ b, (y5 : Value).ownBlock = some b → b ≠ w.heap.size + 1 ∧ b ≠ bd ∧ b ≠ N from fun b' e => ⟨fun h => (X6.out.st.fa.others (k := 5) rfl (b := w.heap.size + 1) (by simp)).2.1 (by rw [← h]; exact e), fun h => ((X6.out.ds).2 bd od' _ _ rfl).2 (List.mem_cons.2 (.inr (mem_rowsB (k := 5) rfl (by rw [← h]; exact e)))), fun h => X6.out.na.2 (List.mem_cons.2 (.inr (mem_rowsB (k := 5) rfl (by rw [← h]; exact e))))⟩)
            clear l1 hdl2 hsz hnz hdk
            go_upto_region 19 with fail
            refine wp_region_B (T := fun w' => w'.cell? ⟨w.heap.size + 1, 6, none⟩ = some (y5) ∧ w'.cell? ⟨bd, od' + k, none⟩ = some (.int .i64 (dk : Int)) ∧ w'.cell? ⟨N, 4, none⟩ = some (.int .i64 nd.size)) 14 (by kernel_rfl) ?_ (fun hHeld => ?_); (focus (first | with_reducible exact True.intro | ((try dsimp only); and_intros <;> first | (go_simp; done) | (go_keep; done)))); (refine lexTkF 0 (v := ?_) rfl hHeld ?_ (by kernel_rfl) (fun _ _ _ h => h) ?_ ?_; rotate_left 2; (focus rfl); (focus (intro w hSw; (try dsimp only at hSw); first | (go_simp; done) | (go_simp; with_reducible rfl)))); (try simp only [Act.put, List.setIfInBounds_toArray, List.set_cons_zero, List.set_cons_succ]); (refine lexTkB 1 #[true, false, true, true, true, true, true, true, true, true, true, true, false, false, false] (v := ?_) rfl hHeld ?_ (by kernel_rfl) (fun _ _ _ h => h) ?_ ?_; rotate_left 2; (focus rfl); (focus (intro w hSw; (try dsimp only at hSw); first | (go_simp; done) | (go_simp; with_reducible rfl)))); (try simp only [Act.put, List.setIfInBounds_toArray, List.set_cons_zero, List.set_cons_succ]); (refine lexTkF 2 (v := ?_) rfl hHeld ?_ (by kernel_rfl) (fun _ _ _ h => h) ?_ ?_; rotate_left 2; (focus rfl); (focus (intro w hSw; (try dsimp only at hSw); first | (go_simp; done) | (go_simp; with_reducible rfl)))); (try simp only [Act.put, List.setIfInBounds_toArray, List.set_cons_zero, List.set_cons_succ]); (refine lexTkF 3 (v := ?_) rfl hHeld ?_ (by kernel_rfl) (fun _ _ _ h => h) ?_ ?_; rotate_left 2; (focus rfl); (focus (intro w hSw; (try dsimp only at hSw); first | (go_simp; done) | (go_simp; with_reducible rfl)))); (try simp only [Act.put, List.setIfInBounds_toArray, List.set_cons_zero, List.set_cons_succ]); (refine lexTkF 4 (v := ?_) rfl hHeld ?_ (by kernel_rfl) (fun _ _ _ h => h) ?_ ?_; rotate_left 2; (focus rfl); (focus (intro w hSw; (try dsimp only at hSw); first | (go_simp; done) | (go_simp; with_reducible rfl)))); (try simp only [Act.put, List.setIfInBounds_toArray, List.set_cons_zero, List.set_cons_succ]); (refine lexTkB 5 #[true, true, true, true, true, false, false, true, true, true, false, false, false, false, false] (v := ?_) rfl hHeld ?_ (by kernel_rfl) (fun _ _ _ h => h) ?_ ?_; rotate_left 2; (focus rfl); (focus (intro w hSw; (try dsimp only at hSw); first | (go_simp; done) | (go_simp; with_reducible rfl)))); (try simp only [Act.put, List.setIfInBounds_toArray, List.set_cons_zero, List.set_cons_succ]); (refine lexTkF 6 (v := ?_) rfl hHeld ?_ (by kernel_rfl) (fun _ _ _ h => h) ?_ ?_; rotate_left 2; (focus rfl); (focus (intro w hSw; (try dsimp only at hSw); first | (go_simp; done) | (go_simp; with_reducible rfl)))); (try simp only [Act.put, List.setIfInBounds_toArray, List.set_cons_zero, List.set_cons_succ]); (refine lexTkF 7 (v := ?_) rfl hHeld ?_ (by kernel_rfl) (fun _ _ _ h => h) ?_ ?_; rotate_left 2; (focus rfl); (focus (intro w hSw; (try dsimp only at hSw); first | (go_simp; done) | (go_simp; with_reducible rfl)))); (try simp only [Act.put, List.setIfInBounds_toArray, List.set_cons_zero, List.set_cons_succ]); (refine lexTkB 8 #[true, true, true, true, true, true, true, true, false, false, false, false, false, false, false] (v := ?_) rfl hHeld ?_ (by kernel_rfl) (fun _ _ _ h => h) ?_ ?_; rotate_left 2; (focus rfl); (focus (intro w hSw; (try dsimp only at hSw); first | (go_simp; done) | (go_simp; with_reducible rfl)))); (try simp only [Act.put, List.setIfInBounds_toArray, List.set_cons_zero, List.set_cons_succ]); refine lexHvB 9 rfl ?_ (by kernel_rfl); (intro K hK); (go_simp; (go_at_call 135); ((with_reducible refine (HNO.out _).mono ?_)); (rintro e w9 ⟨rfl, d9, rfl⟩); (try go_wp2_with fail)); refine hK.out _ _ ?_ ?_; (focus (first | with_reducible exact True.intro | ((try dsimp only); and_intros <;> first | (go_simp; done) | (go_keep; done)))); (clear hHeld hK K); (intro hHeld); (try simp only [Act.put, List.setIfInBounds_toArray, List.set_cons_zero, List.set_cons_succ]); (refine lexTkF 10 (v := ?_) rfl hHeld ?_ (by kernel_rfl) (fun _ _ _ h => h) ?_ ?_; rotate_left 2; (focus rfl); (focus (intro w hSw; (try dsimp only at hSw); first | (go_simp; done) | (go_simp; with_reducible rfl)))); (try simp only [Act.put, List.setIfInBounds_toArray, List.set_cons_zero, List.set_cons_succ]); refine lexHvB 11 rfl ?_ (by kernel_rfl); (intro K hK); (go_simp); refine hK.out _ _ ?_ ?_; (focus (first | with_reducible exact True.intro | ((try dsimp only); and_intros <;> first | (go_simp; done) | (go_keep; done)))); (clear hHeld hK K); (intro hHeld); (try simp only [Act.put, List.setIfInBounds_toArray, List.set_cons_zero, List.set_cons_succ]); refine lexHvB 12 rfl ?_ (by kernel_rfl); (intro K hK); ((refine appI_step rfl _ _ rfl (w.heap.size + 1 + 1) (by rfl) ((X6.out.st.fa.below (by (repeat (first | with_reducible exact Below.refl _ _ | with_reducible refine Bs ?_ | with_reducible refine Ba ?_ | with_reducible refine Bd ?_ | with_reducible refine Bn ?_)))).rows 5 _ LD rfl rfl) (by rfl) (intsOne (x := (dk : Int) * 1073741824 + nz) (((row_new (by simp)).cell 0).trans rfl)) (by have := BD.out; simp; omega) (by first | omega | (simp; done) | (simp; omega)) ?_); (intro vg wg og gg nbg); (obtain ⟨ag, bg, cg, rfl⟩ := own_shape og); (have x0 : wg.cell? ⟨w.heap.size + 1, 6, none⟩ = some (y5) := (gcell gg (by first | omega | (simp; done) | (simp; omega)) (fun e => (MC.out _ e).1 rfl)).trans (by go_simp)); (have x1 : wg.cell? ⟨bd, od' + k, none⟩ = some (.int .i64 (dk : Int)) := (gcell gg (by first | omega | (simp; done) | (simp; omega)) (fun e => (MC.out _ e).2.1 rfl)).trans (by go_simp)); (have x2 : wg.cell? ⟨N, 4, none⟩ = some (.int .i64 nd.size) := (gcell gg (by first | omega | (simp; done) | (simp; omega)) (fun e => (MC.out _ e).2.2 rfl)).trans (by go_simp)); (have x9 : wg.frozen? ⟨w.heap.size + 1, 6, none⟩ = false := (gfroz gg (by first | omega | (simp; done) | (simp; omega)) (fun e => (MC.out _ e).1 rfl)).trans (((show Below U6.heap.size U6 _ from by (repeat (first | with_reducible exact Below.refl _ _ | with_reducible refine Bs ?_ | with_reducible refine Ba ?_ | with_reducible refine Bd ?_ | with_reducible refine Bn ?_))).frozen (p := ⟨w.heap.size + 1, 6, none⟩) hPz).trans q6)); (have KC := Lib.hid (show ∃ W0, Below U6.heap.size U6 W0 ∧ W0.grownBy wg (y5 : Value).ownBlock ∧ NewB W0 (y5) (.slice ag bg cg) from ⟨_, by (repeat (first | with_reducible exact Below.refl _ _ | with_reducible refine Bs ?_ | with_reducible refine Ba ?_ | with_reducible refine Bd ?_ | with_reducible refine Bn ?_)), gg, nbg⟩)); (have OC := Lib.hid og); (have hlc := World.block_lt_of_cell? _ _ x0); (dsimp only at hlc); (clear og gg nbg)); refine hK.out _ _ ?_ ?_; (focus (first | with_reducible exact True.intro | ((try dsimp only); and_intros <;> first | (go_simp; done) | (go_keep; done)))); (clear hHeld hK K); (intro hHeld); (try simp only [Act.put, List.setIfInBounds_toArray, List.set_cons_zero, List.set_cons_succ]); (refine lexTkF 13 (v := ?_) rfl hHeld ?_ (by kernel_rfl) (fun _ _ _ h => h) ?_ ?_; rotate_left 2; (focus rfl); (focus (intro w hSw; (try dsimp only at hSw); first | (go_simp; done) | (go_simp; with_reducible rfl)))); (try simp only [Act.put, List.setIfInBounds_toArray, List.set_cons_zero, List.set_cons_succ]); refine lexHvE 14 rfl ?_ (by kernel_rfl) (by kernel_rfl); (intro K hK); (go_simp); refine hK.out _ _ ?_; (clear hK K); (try clear hHeld); (try simp only [Act.put]); refine wpAnyB_done (by kernel_rfl) ?_ _
            all_goals
              obtain ⟨W0, k1, k2, k3⟩ := KC.out
              have XA := Lib.hid (X6.out.app (k := 5) (l' := LD ++ [(dk : Int) * 1073741824 + nz]) rfl k1 k2 (by simpa using OC.out) k3)
              have HE := Lib.hid (show rcLs lk t s (k + 1) = [SB, LC ++ List.replicate D.toNat 0, LA ++ [nd.at_], LL ++ [0], LR ++ [0], LD ++ [(dk : Int) * 1073741824 + nz], LZ ++ [nd.size]] from by
                have c1 : coefN t.dim nd = List.replicate D.toNat 0 := by unfold coefN; rw [if_pos HL1.out, HDD.out]
                have c2 : leftN s nd = 0 := by unfold leftN; rw [if_pos HL1.out]
                have c3 : rightN s nd = 0 := by unfold rightN; rw [if_pos HL1.out]
                rw [HPN.out, c1, c2, c3, HADD.out])
              clear k1 k2 k3 KC OC MC HPN HADD HL1
              go_wp2_with fail
              go_roundw
              case rel => exact ⟨k + 1, _, _, _, _, _, _, by go_num, by omega, by rw [HE.out]; exact XA.out.st, XA.out.ds⟩
              case measure => simp [intOf] <;> omega
          | false =>
            obtain ⟨mm, _, _, _, _, _, k1', _, k3', k4', k5', _⟩ := (treeB_true.1 HT.out).inner HND.out hlf
            have hmm := k5'.lt
            have hmm0 := k3'.lt
            rw [HM.out] at hmm
            have hl0 : ¬ nd.left = 0 := by omega
            have J0 := Lib.hid (show (nd.left == 0) = false by simp [hl0])
            have HE := Lib.hid (show rcLs lk t s (k + 1) = [SB, LC ++ nd.coef, LA ++ [nd.at_], LL ++ [(s : Int) + nd.left], LR ++ [(s : Int) + nd.right], LD ++ [0], LZ ++ [nd.size]] from by
              have c1 : coefN t.dim nd = nd.coef := by unfold coefN; rw [if_neg hl0]
              have c2 : leftN s nd = (s : Int) + nd.left := by unfold leftN; rw [if_neg hl0]
              have c3 : rightN s nd = (s : Int) + nd.right := by unfold rightN; rw [if_neg hl0]
              have c4 : addN t k nd = 0 := by unfold addN; rw [if_neg hl0]
              rw [HPN.out, c1, c2, c3, c4])
            have HCO := Lib.hid (show nd.coef.length ≤ 8 from by
              have c1 : coefN t.dim nd = nd.coef := by unfold coefN; rw [if_neg hl0]
              have := coefN_len HT.out (List.mem_of_getElem? HND.out)
              rw [c1, HDD.out] at this
              omega)
            have hw1 : IntKind.i64.wrap ((s : Int) + nd.left) = (s : Int) + nd.left := by rw [IntKind.wrap_i64]; omega
            have hw2 : IntKind.i64.wrap ((s : Int) + nd.right) = (s : Int) + nd.right := by rw [IntKind.wrap_i64]; omega
            have n2 : U3.cell? ⟨N, 2, none⟩ = some (.int .i64 nd.left) := (X3.out.nb.cell 2).trans rfl
            have hNz : N < U3.heap.size := X3.out.na.1
            have jj := J0.out
            clear k1' k3' k4' k5' hmm hmm0 HPN
            go_upto_region 20 with fail
            clear n2 hNz jj J0
            have p2 : U3.cell? ⟨w.heap.size + 1, 2, none⟩ = some (y1) := (X3.out.st.fa.cs 1 _ rfl).1
            have q2 : U3.frozen? ⟨w.heap.size + 1, 2, none⟩ = false := (X3.out.st.fa.cs 1 _ rfl).2
            have hPz : w.heap.size + 1 < U3.heap.size := X3.out.st.fa.lt
            have hNz : N < U3.heap.size := X3.out.na.1
            have n0 : U3.cell? ⟨N, 0, none⟩ = some (.slice cca nd.coef.length ccc) := (X3.out.nb.cell 0).trans rfl
            go_upto_region 21 with (at_builtin; go_must (refine appI rfl _ _ rfl (w.heap.size + 1 + 1) (by rfl) (X3.out.st.fa.rows 1 _ LC rfl rfl) (by rfl) (HCI.out.below X3.out.st.bel) (by have := BC.out; have := HCO.out; omega) (by omega) ?_))
            intro vq6 wq6 oq6 gq6 nbq6
            obtain ⟨aq6, bq6, cq6, rfl⟩ := own_shape oq6
            have kp := X3.out.st.keepP (show Below U3.heap.size U3 _ from by exact Below.refl _ _) (k := 1) rfl gq6
            have z1 : wq6.cell? ⟨w.heap.size + 1, 2, none⟩ = some (y1) := (kp.1 2).trans p2
            have z2 : wq6.frozen? ⟨w.heap.size + 1, 2, none⟩ = false := (kp.2.1 2).trans q2
            have z3 := kp.2.2
            have XA := Lib.hid (X3.out.app (k := 1) (l' := LC ++ nd.coef) rfl (show Below U3.heap.size U3 _ from by exact Below.refl _ _) gq6 (by simpa using oq6) nbq6)
            clear kp oq6 gq6 nbq6
            clear p2 q2 hPz hNz n0
            go_upto_region 21 with fail
            obtain ⟨U4, hU⟩ : ∃ U, wq6.setCell ⟨w.heap.size + 1, 2, none⟩ (.slice aq6 bq6 cq6) = U := ⟨_, rfl⟩
            have xa := XA.out
            simp only [Nat.reduceAdd] at xa
            rw [hU] at xa
            rw [hU]
            have X4 := Lib.hid (show RcX w U4 D [.slice aS yS cS, .slice aq6 bq6 cq6, .slice aq1 bq1 cq1, y3, y4, y5, .slice aq2 bq2 cq2] [SB, LC ++ nd.coef, LA ++ [nd.at_], LL, LR, LD, LZ ++ [nd.size]] (.slice da ds.length dc) ds N #[.slice cca nd.coef.length ccc, .int .i64 nd.at_, .int .i64 nd.left, .int .i64 nd.right, .int .i64 nd.size] from xa)
            clear xa hU XA z1 z2 z3
            have p4 : U4.cell? ⟨w.heap.size + 1, 4, none⟩ = some (y3) := (X4.out.st.fa.cs 3 _ rfl).1
            have q4 : U4.frozen? ⟨w.heap.size + 1, 4, none⟩ = false := (X4.out.st.fa.cs 3 _ rfl).2
            have hPz : w.heap.size + 1 < U4.heap.size := X4.out.st.fa.lt
            have hNz : N < U4.heap.size := X4.out.na.1
            have n2 : U4.cell? ⟨N, 2, none⟩ = some (.int .i64 nd.left) := (X4.out.nb.cell 2).trans rfl
            go_upto_region 22 with (at_builtin; go_must (refine appI rfl _ _ rfl (w.heap.size + 1 + 1) (by rfl) ((X4.out.st.fa.below (show Below U4.heap.size U4 (U4.alloc (.cells #[.int .i64 ((s : Int) + nd.left)] 3)) from by (repeat (first | with_reducible exact Below.refl _ _ | with_reducible refine Bs ?_ | with_reducible refine Ba ?_ | with_reducible refine Bd ?_ | with_reducible refine Bn ?_)))).rows 3 _ (LL) rfl rfl) (by rfl) (Ints.new' .i64 _ 3 #[.int .i64 ((s : Int) + nd.left)] [(s : Int) + nd.left] _ 1 1 (by rfl) (by rfl) (by rfl) (by omega) (by omega)) (by have := BL.out; simp; omega) (by simp; omega) ?_))
            intro vq7 wq7 oq7 gq7 nbq7
            obtain ⟨aq7, bq7, cq7, rfl⟩ := own_shape oq7
            have kp := X4.out.st.keepP (show Below U4.heap.size U4 _ from by (repeat (first | with_reducible exact Below.refl _ _ | with_reducible refine Bs ?_ | with_reducible refine Ba ?_ | with_reducible refine Bd ?_ | with_reducible refine Bn ?_))) (k := 3) rfl gq7
            have z1 : wq7.cell? ⟨w.heap.size + 1, 4, none⟩ = some (y3) := (kp.1 4).trans p4
            have z2 : wq7.frozen? ⟨w.heap.size + 1, 4, none⟩ = false := (kp.2.1 4).trans q4
            have z3 := kp.2.2
            have XA := Lib.hid (X4.out.app (k := 3) (l' := LL ++ [(s : Int) + nd.left]) rfl (show Below U4.heap.size U4 _ from by (repeat (first | with_reducible exact Below.refl _ _ | with_reducible refine Bs ?_ | with_reducible refine Ba ?_ | with_reducible refine Bd ?_ | with_reducible refine Bn ?_))) gq7 (by simpa using oq7) nbq7)
            clear kp oq7 gq7 nbq7
            clear p4 q4 hPz hNz n2
            go_upto_region 22 with fail
            obtain ⟨U5, hU⟩ : ∃ U, wq7.setCell ⟨w.heap.size + 1, 4, none⟩ (.slice aq7 bq7 cq7) = U := ⟨_, rfl⟩
            have xa := XA.out
            simp only [Nat.reduceAdd] at xa
            rw [hU] at xa
            rw [hU]
            have X5 := Lib.hid (show RcX w U5 D [.slice aS yS cS, .slice aq6 bq6 cq6, .slice aq1 bq1 cq1, .slice aq7 bq7 cq7, y4, y5, .slice aq2 bq2 cq2] [SB, LC ++ nd.coef, LA ++ [nd.at_], LL ++ [(s : Int) + nd.left], LR, LD, LZ ++ [nd.size]] (.slice da ds.length dc) ds N #[.slice cca nd.coef.length ccc, .int .i64 nd.at_, .int .i64 nd.left, .int .i64 nd.right, .int .i64 nd.size] from xa)
            clear xa hU XA z1 z2 z3
            have p5 : U5.cell? ⟨w.heap.size + 1, 5, none⟩ = some (y4) := (X5.out.st.fa.cs 4 _ rfl).1
            have q5 : U5.frozen? ⟨w.heap.size + 1, 5, none⟩ = false := (X5.out.st.fa.cs 4 _ rfl).2
            have hPz : w.heap.size + 1 < U5.heap.size := X5.out.st.fa.lt
            have hNz : N < U5.heap.size := X5.out.na.1
            have n3 : U5.cell? ⟨N, 3, none⟩ = some (.int .i64 nd.right) := (X5.out.nb.cell 3).trans rfl
            go_upto_region 23 with (at_builtin; go_must (refine appI rfl _ _ rfl (w.heap.size + 1 + 1) (by rfl) ((X5.out.st.fa.below (show Below U5.heap.size U5 (U5.alloc (.cells #[.int .i64 ((s : Int) + nd.right)] 3)) from by (repeat (first | with_reducible exact Below.refl _ _ | with_reducible refine Bs ?_ | with_reducible refine Ba ?_ | with_reducible refine Bd ?_ | with_reducible refine Bn ?_)))).rows 4 _ (LR) rfl rfl) (by rfl) (Ints.new' .i64 _ 3 #[.int .i64 ((s : Int) + nd.right)] [(s : Int) + nd.right] _ 1 1 (by rfl) (by rfl) (by rfl) (by omega) (by omega)) (by have := BR.out; simp; omega) (by simp; omega) ?_))
            intro vq8 wq8 oq8 gq8 nbq8
            obtain ⟨aq8, bq8, cq8, rfl⟩ := own_shape oq8
            have kp := X5.out.st.keepP (show Below U5.heap.size U5 _ from by (repeat (first | with_reducible exact Below.refl _ _ | with_reducible refine Bs ?_ | with_reducible refine Ba ?_ | with_reducible refine Bd ?_ | with_reducible refine Bn ?_))) (k := 4) rfl gq8
            have z1 : wq8.cell? ⟨w.heap.size + 1, 5, none⟩ = some (y4) := (kp.1 5).trans p5
            have z2 : wq8.frozen? ⟨w.heap.size + 1, 5, none⟩ = false := (kp.2.1 5).trans q5
            have z3 := kp.2.2
            have XA := Lib.hid (X5.out.app (k := 4) (l' := LR ++ [(s : Int) + nd.right]) rfl (show Below U5.heap.size U5 _ from by (repeat (first | with_reducible exact Below.refl _ _ | with_reducible refine Bs ?_ | with_reducible refine Ba ?_ | with_reducible refine Bd ?_ | with_reducible refine Bn ?_))) gq8 (by simpa using oq8) nbq8)
            clear kp oq8 gq8 nbq8
            clear p5 q5 hPz hNz n3
            go_upto_region 23 with fail
            obtain ⟨U6, hU⟩ : ∃ U, wq8.setCell ⟨w.heap.size + 1, 5, none⟩ (.slice aq8 bq8 cq8) = U := ⟨_, rfl⟩
            have xa := XA.out
            simp only [Nat.reduceAdd] at xa
            rw [hU] at xa
            rw [hU]
            have X6 := Lib.hid (show RcX w U6 D [.slice aS yS cS, .slice aq6 bq6 cq6, .slice aq1 bq1 cq1, .slice aq7 bq7 cq7, .slice aq8 bq8 cq8, y5, .slice aq2 bq2 cq2] [SB, LC ++ nd.coef, LA ++ [nd.at_], LL ++ [(s : Int) + nd.left], LR ++ [(s : Int) + nd.right], LD, LZ ++ [nd.size]] (.slice da ds.length dc) ds N #[.slice cca nd.coef.length ccc, .int .i64 nd.at_, .int .i64 nd.left, .int .i64 nd.right, .int .i64 nd.size] from xa)
            clear xa hU XA z1 z2 z3
            have p6 : U6.cell? ⟨w.heap.size + 1, 6, none⟩ = some (y5) := (X6.out.st.fa.cs 5 _ rfl).1
            have q6 : U6.frozen? ⟨w.heap.size + 1, 6, none⟩ = false := (X6.out.st.fa.cs 5 _ rfl).2
            have hPz : w.heap.size + 1 < U6.heap.size := X6.out.st.fa.lt
            have hNz : N < U6.heap.size := X6.out.na.1
            go_upto_region 11 with (at_builtin; go_must (refine appI rfl _ _ rfl (w.heap.size + 1 + 1) (by rfl) ((X6.out.st.fa.below (show Below U6.heap.size U6 (U6.alloc (.cells #[.int .i64 (0)] 3)) from by (repeat (first | with_reducible exact Below.refl _ _ | with_reducible refine Bs ?_ | with_reducible refine Ba ?_ | with_reducible refine Bd ?_ | with_reducible refine Bn ?_)))).rows 5 _ (LD) rfl rfl) (by rfl) (Ints.new' .i64 _ 3 #[.int .i64 (0)] [0] _ 1 1 (by rfl) (by rfl) (by rfl) (by omega) (by omega)) (by have := BD.out; simp; omega) (by simp; omega) ?_))
            intro vq9 wq9 oq9 gq9 nbq9
            obtain ⟨aq9, bq9, cq9, rfl⟩ := own_shape oq9
            have kp := X6.out.st.keepP (show Below U6.heap.size U6 _ from by (repeat (first | with_reducible exact Below.refl _ _ | with_reducible refine Bs ?_ | with_reducible refine Ba ?_ | with_reducible refine Bd ?_ | with_reducible refine Bn ?_))) (k := 5) rfl gq9
            have z1 : wq9.cell? ⟨w.heap.size + 1, 6, none⟩ = some (y5) := (kp.1 6).trans p6
            have z2 : wq9.frozen? ⟨w.heap.size + 1, 6, none⟩ = false := (kp.2.1 6).trans q6
            have z3 := kp.2.2
            have XA := Lib.hid (X6.out.app (k := 5) (l' := LD ++ [0]) rfl (show Below U6.heap.size U6 _ from by (repeat (first | with_reducible exact Below.refl _ _ | with_reducible refine Bs ?_ | with_reducible refine Ba ?_ | with_reducible refine Bd ?_ | with_reducible refine Bn ?_))) gq9 (by simpa using oq9) nbq9)
            clear kp oq9 gq9 nbq9
            clear p6 q6 hPz hNz
            go_upto_region 11 with fail
            obtain ⟨U7, hU⟩ : ∃ U, wq9.setCell ⟨w.heap.size + 1, 6, none⟩ (.slice aq9 bq9 cq9) = U := ⟨_, rfl⟩
            have xa := XA.out
            simp only [Nat.reduceAdd] at xa
            rw [hU] at xa
            rw [hU]
            have X7 := Lib.hid (show RcX w U7 D [.slice aS yS cS, .slice aq6 bq6 cq6, .slice aq1 bq1 cq1, .slice aq7 bq7 cq7, .slice aq8 bq8 cq8, .slice aq9 bq9 cq9, .slice aq2 bq2 cq2] [SB, LC ++ nd.coef, LA ++ [nd.at_], LL ++ [(s : Int) + nd.left], LR ++ [(s : Int) + nd.right], LD ++ [0], LZ ++ [nd.size]] (.slice da ds.length dc) ds N #[.slice cca nd.coef.length ccc, .int .i64 nd.at_, .int .i64 nd.left, .int .i64 nd.right, .int .i64 nd.size] from xa)
            clear xa hU XA z1 z2 z3
            go_wp2_with fail
            go_roundw
            case rel => exact ⟨k + 1, _, _, _, _, _, _, by go_num, by omega, by rw [HE.out]; exact X7.out.st, X7.out.ds⟩
            case measure => simp [intOf] <;> omega
        · have hkm : k = m := by omega
          subst hkm
          have HFL := Lib.hid (show rcLs lk t s k = flatL (l.take (i + 1)) from by rw [HTk.out, ← rcLs_all, HS.out, HM.out])
          have SF := SK.out
          rw [HFL.out] at SF
          have SG := Lib.hid SF
          have HDI := Lib.hid (show D = dimL (l.take (i + 1)) from by rw [HTk.out]; unfold dimL; rw [List.getLast?_concat]; exact HDD.out.symm)
          clear SF SK
          go_wp2_with fail
          go_roundw
          case rel => exact ⟨i + 1, D, _, _, _, _, _, _, _, by go_num, by omega, SG.out, HDI.out⟩
          case measure => simp [intOf] <;> omega
    · have hin : i = n := by omega
      subst hin
      have S2 := S1.out
      rw [List.take_of_length_le (by rw [HL.out]; exact Nat.le_refl _)] at S2
      have HDD := HD.out
      rw [List.take_of_length_le (by rw [HL.out]; exact Nat.le_refl _)] at HDD
      rw [HDL0.out] at HDD
      subst HDD
      have S3 := Lib.hid S2
      obtain ⟨cs1, hr, hcs⟩ := S2.rR
      have HFB := Lib.hid (show (coefsL l).length ≤ 100000 ∧ lenTs l ≤ 100000 ∧ l.length ≤ 100000 from by
        have g1 := lenTs_le (l := l) (b := 127) fun x hx => (treeB_true.1 (HOK.out x hx).1).len.2
        have g2 : l.length ≤ 16 := by rw [HL.out]; exact h16
        have g3 := Nat.mul_le_mul_right 127 g2
        have g4 := coefsL_len l HOK.out
        have g5 : (dimL l).toNat ≤ 8 := by
          cases l with
          | nil => simp [dimL]
          | cons t l' => have h1 := HOK.out t (by simp); have h2 := treeB_dim h1.1; omega
        have g6 := Nat.mul_le_mul (show lenTs l ≤ 2032 by omega) g5
        omega)
      clear S2 S1 HD
      obtain ⟨a0, y0, c0, hu0⟩ := own_shape (S3.out.fa.rows 0 u0 _ rfl rfl)
      subst hu0
      obtain ⟨a1, y1, c1, hu1⟩ := own_shape (S3.out.fa.rows 1 u1 _ rfl rfl)
      subst hu1
      obtain ⟨a2, y2, c2, hu2⟩ := own_shape (S3.out.fa.rows 2 u2 _ rfl rfl)
      subst hu2
      obtain ⟨a3, y3, c3, hu3⟩ := own_shape (S3.out.fa.rows 3 u3 _ rfl rfl)
      subst hu3
      obtain ⟨a4, y4, c4, hu4⟩ := own_shape (S3.out.fa.rows 4 u4 _ rfl rfl)
      subst hu4
      obtain ⟨a5, y5, c5, hu5⟩ := own_shape (S3.out.fa.rows 5 u5 _ rfl rfl)
      subst hu5
      obtain ⟨a6, y6, c6, hu6⟩ := own_shape (S3.out.fa.rows 6 u6 _ rfl rfl)
      subst hu6
      have p0 : wr.cell? ⟨w.heap.size + 1, 0, none⟩ = some (.int .i64 d) := S3.out.fa.c0
      obtain ⟨v0, r0⟩ : ∃ v, wr.cell? ⟨w.heap.size, 0, none⟩ = some v := ⟨_, (hr.cell 0).trans (Array.getElem?_eq_getElem (by omega))⟩
      have s0 : wr.frozen? ⟨w.heap.size, 0, none⟩ = false := hr.frozen _
      have p1 : wr.cell? ⟨w.heap.size + 1, 1, none⟩ = some (.slice a0 y0 c0) := (S3.out.fa.cs 0 _ rfl).1
      obtain ⟨v1, r1⟩ : ∃ v, wr.cell? ⟨w.heap.size, 1, none⟩ = some v := ⟨_, (hr.cell 1).trans (Array.getElem?_eq_getElem (by omega))⟩
      have s1 : wr.frozen? ⟨w.heap.size, 1, none⟩ = false := hr.frozen _
      have p2 : wr.cell? ⟨w.heap.size + 1, 2, none⟩ = some (.slice a1 y1 c1) := (S3.out.fa.cs 1 _ rfl).1
      obtain ⟨v2, r2⟩ : ∃ v, wr.cell? ⟨w.heap.size, 2, none⟩ = some v := ⟨_, (hr.cell 2).trans (Array.getElem?_eq_getElem (by omega))⟩
      have s2 : wr.frozen? ⟨w.heap.size, 2, none⟩ = false := hr.frozen _
      have p3 : wr.cell? ⟨w.heap.size + 1, 3, none⟩ = some (.slice a2 y2 c2) := (S3.out.fa.cs 2 _ rfl).1
      obtain ⟨v3, r3⟩ : ∃ v, wr.cell? ⟨w.heap.size, 3, none⟩ = some v := ⟨_, (hr.cell 3).trans (Array.getElem?_eq_getElem (by omega))⟩
      have s3 : wr.frozen? ⟨w.heap.size, 3, none⟩ = false := hr.frozen _
      have p4 : wr.cell? ⟨w.heap.size + 1, 4, none⟩ = some (.slice a3 y3 c3) := (S3.out.fa.cs 3 _ rfl).1
      obtain ⟨v4, r4⟩ : ∃ v, wr.cell? ⟨w.heap.size, 4, none⟩ = some v := ⟨_, (hr.cell 4).trans (Array.getElem?_eq_getElem (by omega))⟩
      have s4 : wr.frozen? ⟨w.heap.size, 4, none⟩ = false := hr.frozen _
      have p5 : wr.cell? ⟨w.heap.size + 1, 5, none⟩ = some (.slice a4 y4 c4) := (S3.out.fa.cs 4 _ rfl).1
      obtain ⟨v5, r5⟩ : ∃ v, wr.cell? ⟨w.heap.size, 5, none⟩ = some v := ⟨_, (hr.cell 5).trans (Array.getElem?_eq_getElem (by omega))⟩
      have s5 : wr.frozen? ⟨w.heap.size, 5, none⟩ = false := hr.frozen _
      have p6 : wr.cell? ⟨w.heap.size + 1, 6, none⟩ = some (.slice a5 y5 c5) := (S3.out.fa.cs 5 _ rfl).1
      obtain ⟨v6, r6⟩ : ∃ v, wr.cell? ⟨w.heap.size, 6, none⟩ = some v := ⟨_, (hr.cell 6).trans (Array.getElem?_eq_getElem (by omega))⟩
      have s6 : wr.frozen? ⟨w.heap.size, 6, none⟩ = false := hr.frozen _
      have p7 : wr.cell? ⟨w.heap.size + 1, 7, none⟩ = some (.slice a6 y6 c6) := (S3.out.fa.cs 6 _ rfl).1
      obtain ⟨v7, r7⟩ : ∃ v, wr.cell? ⟨w.heap.size, 7, none⟩ = some v := ⟨_, (hr.cell 7).trans (Array.getElem?_eq_getElem (by omega))⟩
      have s7 : wr.frozen? ⟨w.heap.size, 7, none⟩ = false := hr.frozen _
      have hzr := hr.lt
      have hzp := S3.out.fa.lt
      clear hr hcs
      go_wp2_with fail
      obtain ⟨W, hW⟩ : ∃ W, ((((((((wr.setCell ⟨w.heap.size, 0, none⟩ (.int .i64 d)).setCell ⟨w.heap.size, 1, none⟩ (.slice a0 y0 c0)).setCell ⟨w.heap.size, 2, none⟩ (.slice a1 y1 c1)).setCell ⟨w.heap.size, 3, none⟩ (.slice a2 y2 c2)).setCell ⟨w.heap.size, 4, none⟩ (.slice a3 y3 c3)).setCell ⟨w.heap.size, 5, none⟩ (.slice a4 y4 c4)).setCell ⟨w.heap.size, 6, none⟩ (.slice a5 y5 c5)).setCell ⟨w.heap.size, 7, none⟩ (.slice a6 y6 c6)) = W := ⟨_, rfl⟩
      have f0 : W.cell? ⟨w.heap.size, 0, none⟩ = some (.int .i64 d) := by subst hW; go_simp
      have f1 : W.cell? ⟨w.heap.size, 1, none⟩ = some (.slice a0 y0 c0) := by subst hW; go_simp
      have f2 : W.cell? ⟨w.heap.size, 2, none⟩ = some (.slice a1 y1 c1) := by subst hW; go_simp
      have f3 : W.cell? ⟨w.heap.size, 3, none⟩ = some (.slice a2 y2 c2) := by subst hW; go_simp
      have f4 : W.cell? ⟨w.heap.size, 4, none⟩ = some (.slice a3 y3 c3) := by subst hW; go_simp
      have f5 : W.cell? ⟨w.heap.size, 5, none⟩ = some (.slice a4 y4 c4) := by subst hW; go_simp
      have f6 : W.cell? ⟨w.heap.size, 6, none⟩ = some (.slice a5 y5 c5) := by subst hW; go_simp
      have f7 : W.cell? ⟨w.heap.size, 7, none⟩ = some (.slice a6 y6 c6) := by subst hW; go_simp
      have HB := Lib.hid (show Below w.heap.size w W from by rw [← hW]; (repeat (first | with_reducible exact Below.refl _ _ | with_reducible refine Bs ?_ | with_reducible refine Ba ?_ | with_reducible refine Bd ?_ | with_reducible refine Bn ?_ | with_reducible refine Bt S3.out.bel ?_)))
      have HK := Lib.hid (show ∀ g, g ≠ w.heap.size → W.heap[g]? = wr.heap[g]? from fun g hg => by rw [← hW]; repeat rw [Below.heap_setCell _ _ _ _ hg])
      rw [hW]
      refine bodyPost_ret (v := .agg #[.int .i64 d, .slice a0 y0 c0, .slice a1 y1 c1, .slice a2 y2 c2, .slice a3 y3 c3, .slice a4 y4 c4, .slice a5 y5 c5, .slice a6 y6 c6]) (by simp [results, Try.results65, go_sem, f0, f1, f2, f3, f4, f5, f6, f7]) rfl ⟨_, _, _, _, _, _, _, rfl, fun j v r hv hr => ?_, HB.out⟩
      have ho := S3.out.fa.rows j v r hv hr
      have hlo : ∀ g, v.ownBlock = some g → g ≠ w.heap.size := fun g hg => by have := (ho.lt g hg).1; omega
      exact (Ints.own (own_at ho fun g hg => HK.out g (hlo g hg)) (by have := flatL_len HFB.out.1 HFB.out.2.1 HFB.out.2.2 hr; omega)).2
end Go.Proofs.Ytjmjnkilgoelbaa
