/-
  FlatW: Slices of rows of integers. Walk of flat's Batch.
  FlatU: A tree that is made node by node: how it lies.
-/
import Derived.Test.YtjmjnkilgoelbaaKFlatT
namespace Go.Proofs.Ytjmjnkilgoelbaa
open Go.RowKit

/-- v is a slice of rows of integers. -/
def RowsR (w : World) (v : Value) (l : List (List Int)) : Prop :=
  ∃ a c, v = .slice a l.length c ∧ l.length ≤ c ∧ c ≤ 9223372036854775807 ∧ l.length ≤ 140737488351232 ∧
    ∀ (i : Nat) (x : List Int), l[i]? = some x → ∃ b o u, a = some ⟨b, o, none⟩ ∧ b < w.heap.size ∧ w.cell? ⟨b, o + i, none⟩ = some u ∧ Ints .i64 w u x

theorem RowsR.below {w w' : World} {v : Value} {l : List (List Int)} (h : RowsR w v l) (B : Below w.heap.size w w') : RowsR w' v l := by
  obtain ⟨a, c, e, h1, h2, h3, h⟩ := h
  refine ⟨a, c, e, h1, h2, h3, fun i x hi => ?_⟩
  obtain ⟨b, o, u, e, hb, c0, hn⟩ := h i x hi
  exact ⟨b, o, u, e, Nat.lt_of_lt_of_le hb B.size, (B.cell (p := ⟨b, _, none⟩) hb).trans c0, hn.below B⟩

noncomputable def fbE (l : List TreeP) : List (List Int) → Int
  | [] => 0
  | x :: r => if fsE l x = 0 then fbE l r else fsE l x
noncomputable def fbC (l : List TreeP) (many : List (List Int)) : Int := if l = [] then 4 else fbE l many

theorem fbE_at {l : List TreeP} : ∀ {many : List (List Int)} {k : Nat} {x : List Int}, (∀ j y, j < k → many[j]? = some y → fsE l y = 0) → many[k]? = some x → fsE l x ≠ 0 → fbE l many = fsE l x
  | [], k, x, _, h, _ => by simp at h
  | y :: many, 0, x, _, h, hx => by
    obtain rfl : y = x := by simpa using h
    rw [fbE, if_neg hx]
  | y :: many, k + 1, x, hall, h, hx => by
    rw [fbE, if_pos (hall 0 y (by omega) rfl)]
    exact fbE_at (k := k) (fun j z hj hz => hall (j + 1) z (by omega) (by simpa using hz)) (by simpa using h) hx

theorem fbE_all {l : List TreeP} : ∀ {many : List (List Int)}, (∀ y ∈ many, fsE l y = 0) → fbE l many = 0
  | [], _ => rfl
  | y :: many, h => by rw [fbE, if_pos (h y (by simp)), fbE_all fun z hz => h z (by simp [hz])]

set_option maxRecDepth 100000 in
set_option maxHeartbeats 4000000 in
theorem batch_any {B P : Nat} {l : List TreeP} {vs : List Value} {nv : Value} (v : Value) (many : List (List Int)) (w : World) (h : PackAt w B P l vs nv) (hm : RowsR w v many) (hlen : many.length ≤ 1000) :
    Calls Try.prog 71 #[.pointer (some ⟨P, 0, none⟩), v] w fun e w' => ∃ v', e = .returned (.tuple #[v', .int .i64 (fbC l many)]) ∧ Below w.heap.size w w' ∧ (fbC l many = 0 → Ints .i64 w' v' (many.map (fsV l))) ∧ (fbC l many ≠ 0 → v' = .slice none 0 0) := by
  have HC := Lib.hid (fun W (hb : Below w.heap.size w W) => flen_any (h.below hb))
  have HS := Lib.hid (fun W u x (hb : Below w.heap.size w W) (hx : Ints .i64 W u x) => fSum_any u x W (h.below hb) hx)
  have HM := Lib.hid hm
  obtain ⟨a, c, rfl, _, _, _, hcell⟩ := hm
  obtain ⟨n, hn⟩ : ∃ n, many.length = n := ⟨_, rfl⟩
  rw [hn] at hlen ⊢
  have HN := Lib.hid hn
  clear hn
  by_cases h0 : l = []
  · have e0 : fbC l many = 4 := by unfold fbC; rw [if_pos h0]
    rw [e0]
    rw [h0] at HC
    simp only [List.length_nil] at HC
    clear h hcell e0 h0
    go_enter Try.func71, Try.ntmps71
    go_wp2_with fail
    (with_reducible refine (HC.out _ (by (repeat (first | with_reducible exact Below.refl _ _ | with_reducible refine Bs ?_ | with_reducible refine Ba ?_ | with_reducible refine Bd ?_ | with_reducible refine Bn ?_)))).mono ?_)
    rintro e w1 ⟨rfl, rfl⟩
    go_wp2_with fail
    exact bodyPost_ret (v := .tuple #[.slice none 0 0, .int .i64 4]) (by simp [results, Try.results71, go_sem]) rfl ⟨_, rfl, by (repeat (first | with_reducible exact Below.refl _ _ | with_reducible refine Bs ?_ | with_reducible refine Ba ?_ | with_reducible refine Bd ?_ | with_reducible refine Bn ?_)), (fun h => by cases h), fun _ => rfl⟩
  · obtain ⟨FC, hFC⟩ : ∃ x, fbC l many = x := ⟨_, rfl⟩
    have HFC := Lib.hid (show fbE l many = FC by rw [← hFC]; unfold fbC; rw [if_neg h0])
    rw [hFC]
    have hl1 : 1 ≤ l.length := List.length_pos_iff.2 h0
    obtain ⟨ll, hll⟩ : ∃ n, l.length = n := ⟨_, rfl⟩
    rw [hll] at HC hl1
    have j0 : ((ll : Int) == 0) = false := by simp; omega
    have HR := Lib.hid hcell
    have J0 := Lib.hid j0
    clear h hcell hFC h0 hll j0
    have jj := J0.out
    go_enter Try.func71, Try.ntmps71
    go_wp2_with fail
    (with_reducible refine (HC.out _ (by (repeat (first | with_reducible exact Below.refl _ _ | with_reducible refine Bs ?_ | with_reducible refine Ba ?_ | with_reducible refine Bd ?_ | with_reducible refine Bn ?_)))).mono ?_)
    rintro e w1 ⟨rfl, rfl⟩
    go_wp2_with (at_make; go_must (refine mkcap rfl _ _ 61 rfl Try.underlying61 eiInt 0 n (by rfl) (by rfl) (by rfl) (by rfl) (by omega) (by omega) ?_))
    intro w2 cur r2 hcs hb2 hz2
    have hown := rowAt_own (base := w.heap.size) (n := 0) (size := 1) (xs := intF []) (Nat.le_refl _) r2 (Nat.zero_le n) (by unfold maxLen; omega) (by omega) (by simp [intF])
    have HOWN := Lib.hid hown
    have B2 := Lib.hid hb2
    clear hown r2 hcs hb2 hz2 jj
    go_wp2_with fail
    go_loopw [6, 8, 9, 10, 23] (fun t _ _ _ i wr => ∃ k : Nat, i = .int .i64 k ∧ k ≤ n ∧ (∀ j y, j < k → many[j]? = some y → fsE l y = 0) ∧ wr.ownsRow w.heap.size 3 1 t ((many.take k).map (fsV l)).length (intF ((many.take k).map (fsV l))) ∧ Below w.heap.size w wr) (fun _ _ _ _ i _ => n - (intOf i).toNat)
    case atStart => exact ⟨0, rfl, by omega, fun j y h => by omega, HOWN.out, B2.out⟩
    case round =>
      obtain ⟨k, rfl, hk, hall, hown, hbr⟩ := hrel
      have HA := Lib.hid hall
      have HO := Lib.hid hown
      have BR := Lib.hid hbr
      have hz := hbr.size
      clear hall hown hbr HOWN B2
      by_cases hlt : k < n
      · obtain ⟨x, hx⟩ := getElem?_ex (l := many) (k := k) (by rw [HN.out]; exact hlt)
        obtain ⟨b, o, u, rfl, hb, c0, hu⟩ := HR.out k x hx
        have e0 : wr.cell? ⟨b, o + k, none⟩ = some u := (BR.out.cell (p := ⟨b, o + k, none⟩) hb).trans c0
        have HU := Lib.hid (hu.below BR.out)
        obtain ⟨ua, uc, rfl⟩ := hu.shape
        have HX := Lib.hid hx
        have hbz : b < wr.heap.size := by omega
        have i1 : (0 : Int) ≤ (k : Int) := by omega
        have i2 : (k : Int) < (n : Int) := by omega
        have HTK := Lib.hid (show (many.take (k + 1)).map (fsV l) = (many.take k).map (fsV l) ++ [fsV l x] by rw [List.take_add_one, hx, List.map_append]; rfl)
        have hkl : ((many.take k).map (fsV l)).length ≤ 1000 := by rw [List.length_map, List.length_take]; omega
        have HS1 := Lib.hid (fun W (hb : Below wr.heap.size wr W) => HS.out W _ x (BR.out.trans (hb.mono hz)) (HU.out.below hb))
        obtain ⟨LK, hLK⟩ : ∃ L, (many.take k).map (fsV l) = L := ⟨_, rfl⟩
        rw [hLK] at HO HTK hkl
        clear hLK
        obtain ⟨E, hE⟩ : ∃ E, fsE l x = E := ⟨_, rfl⟩
        obtain ⟨V, hV⟩ : ∃ V, fsV l x = V := ⟨_, rfl⟩
        rw [hE, hV] at HS1
        rw [hV] at HTK
        clear hx c0 hu hV
        by_cases hE0 : E = 0
        · subst hE0
          have HE := Lib.hid hE
          clear hE
          go_wp2_with fail
          (with_reducible refine (HS1.out _ (by (repeat (first | with_reducible exact Below.refl _ _ | with_reducible refine Bs ?_ | with_reducible refine Ba ?_ | with_reducible refine Bd ?_ | with_reducible refine Bn ?_)))).mono ?_)
          rintro e w3 ⟨rfl, d, rfl⟩
          go_wp2_with (at_builtin; go_must (refine appI rfl _ _ rfl w.heap.size (by rfl) (own_keep HO.out (fun g _ hg => (show Below wr.heap.size wr _ from by (repeat (first | with_reducible exact Below.refl _ _ | with_reducible refine Bs ?_ | with_reducible refine Ba ?_ | with_reducible refine Bd ?_ | with_reducible refine Bn ?_))).block g hg)) (by rfl) (Ints.new' .i64 _ 3 #[.int .i64 V] [V] _ 1 1 (by simp) (by rfl) (by rfl) (by omega) (by omega)) (by simp; omega) (by first | omega | (simp; done) | (simp; omega)) ?_))
          intro v4 w4 o4 g4 nb4
          have O4 := Lib.hid o4
          have B4 := Lib.hid (show Below w.heap.size w w4 from (show Below w.heap.size w _ from by (repeat (first | with_reducible exact Below.refl _ _ | with_reducible refine Bs ?_ | with_reducible refine Ba ?_ | with_reducible refine Bd ?_ | with_reducible refine Bn ?_ | with_reducible refine Bt BR.out ?_))).trans ⟨g4.os, g4.tape, g4.output, g4.size, fun q hq => g4.block q (by simp; omega) fun e => by have := (HO.out.lt q e.symm).1; omega⟩)
          clear o4 g4 nb4
          go_wp2_with fail
          go_roundw
          case rel =>
            refine ⟨k + 1, by go_num, by omega, fun j y hj hy => ?_, by rw [HTK.out]; simpa using O4.out, B4.out⟩
            rcases Nat.lt_or_ge j k with h | h
            · exact HA.out j y h hy
            · obtain rfl : j = k := by omega
              rw [HX.out] at hy
              injection hy with hy
              subst hy
              exact HE.out
          case measure => simp [intOf] <;> omega
        · have HE := Lib.hid (show FC = E by rw [← HFC.out, fbE_at HA.out HX.out (by rw [hE]; exact hE0), hE])
          have jE := Lib.hid (show (E != 0) = true by simp [hE0])
          have HE0 := Lib.hid hE0
          clear hE hE0
          have jj := jE.out
          go_wp2_with fail
          (with_reducible refine (HS1.out _ (by (repeat (first | with_reducible exact Below.refl _ _ | with_reducible refine Bs ?_ | with_reducible refine Ba ?_ | with_reducible refine Bd ?_ | with_reducible refine Bn ?_)))).mono ?_)
          rintro e w3 ⟨rfl, d, rfl⟩
          go_wp2_with fail
          exact bodyPost_ret (v := .tuple #[.slice none 0 0, .int .i64 E]) (by simp [results, Try.results71, go_sem]) rfl ⟨_, by rw [HE.out], by (repeat (first | with_reducible exact Below.refl _ _ | with_reducible refine Bs ?_ | with_reducible refine Ba ?_ | with_reducible refine Bd ?_ | with_reducible refine Bn ?_ | with_reducible refine Bt BR.out ?_)), fun h => absurd (by rw [← HE.out]; exact h) HE0.out, fun _ => rfl⟩
      · have hkn : k = n := by omega
        subst hkn
        have HE := Lib.hid (show FC = 0 by
          rw [← HFC.out]
          refine fbE_all fun y hy => ?_
          obtain ⟨j, hj⟩ := List.getElem?_of_mem hy
          exact HA.out j y (by have := (List.getElem?_eq_some_iff.1 hj).1; rw [HN.out] at this; exact this) hj)
        have HI := Lib.hid (Ints.own HO.out (by rw [List.length_map, List.length_take]; omega)).2
        rw [List.take_of_length_le (by rw [HN.out]; exact Nat.le_refl _)] at HI
        obtain ⟨ta, tn, tc, rfl⟩ := own_shape HO.out
        go_wp2_with fail
        exact bodyPost_ret (v := .tuple #[.slice ta tn tc, .int .i64 0]) (by simp [results, Try.results71, go_sem]) rfl ⟨_, by rw [HE.out], BR.out, fun _ => HI.out, fun h => absurd HE.out h⟩
end Go.Proofs.Ytjmjnkilgoelbaa

namespace Go.Proofs.Ytjmjnkilgoelbaa
open Go.RowKit

theorem eiNode : EI Try.prog 190 (.agg #[.slice none 0 0, .int .i64 0, .int .i64 0, .int .i64 0, .int .i64 0]) 5 56 := .of (by kernel_rfl) rfl (by decide) (by decide)

/-- Append of one element onto a row of the call's own; where the new row lies. -/
theorem app1N {P : Program} {ops : Array Oper} {rest : List Oper} {o : Oper} {a : Act} {Q : Exit → Act → World → Prop} (hgd : o.guard = none) (s x : Operand) (t : TypeId)
    (ho : o.op = .call { callee := .builtin .append, args := #[s, x], argTypes := #[t, t] })
    {e : TypeId} {z : Value} {size bytes : Nat} (ht : P.underlying t = some (.slice e)) (hE : EI P e z size bytes)
    (base : Nat) {v : Value} {n : Nat} {xs : List Value} {W : World} {cs : Array Value} {T : TypeId} {C : Nat} (hs : a.eval s = v) (hown : W.ownsRow base e size v n xs)
    {b : Nat} (hx : a.eval x = .slice (some ⟨b, 0, none⟩) 1 C) (hbk : b = W.heap.size) (hcs : cs.size = size) (h1 : ∀ u ∈ cs.toList, u.oneCell' = true)
    (hbytes : (n + 1) * bytes ≤ 140737488355328) (hbase : base ≤ W.heap.size)
    (h : ∀ v' w', w'.ownsRow base e size v' (n + 1) (xs ++ cs.toList) → W.grownBy w' v.ownBlock → NewB W v v' → wpList P ops Q rest (a.put o.dst v') w') :
    wpList P ops Q (o :: rest) a (W.alloc (.cells cs T)) := by
  subst hbk
  obtain ⟨i, hi, hz, hsize, hby, hzs, hsz, hbp⟩ := hE
  have h63 : n + 1 ≤ 140737488355328 := Nat.le_trans (Nat.le_mul_of_pos_right _ hbp) hbytes
  refine wpList_append_own_at _ hgd s x t ho base e i z size bytes ht hi hz hsize hby hzs hsz v n xs hs (hown.alloc _) ⟨W.heap.size, 0, none⟩ 1 C cs.toList hx (by simp [hcs]) ?_ h1 (by unfold maxLen; omega) hbytes (by simp; omega) ?_
  · intro j u hu
    have hadd : (⟨W.heap.size, 0, none⟩ : Addr).add j = ⟨W.heap.size, j, none⟩ := by unfold Addr.add; split <;> simp_all
    rw [hadd]
    have hb := heap_alloc_new W (.cells cs T)
    simp only [World.cell?, hb]
    simpa using hu
  · intro v' w' hown' hg _ h5
    refine h v' w' hown' ?_ ?_
    · exact ⟨hg.os, hg.tape, hg.output, by have := hg.size; simp at this; omega, fun k hk hn => (hg.block k (by simp; omega) hn).trans ((Ba (B := W.heap.size) (Below.refl _ W)).block k hk)⟩
    · rcases h5 with h | h
      · exact .inl h
      · exact .inr ⟨_, h, by simp⟩

def rowN (p : NodeP × Value) : List Value := [p.2, .int .i64 p.1.at_, .int .i64 p.1.left, .int .i64 p.1.right, .int .i64 p.1.size]

theorem rowN_at : ∀ (ps : List (NodeP × Value)) (i : Nat) (p : NodeP × Value), ps[i]? = some p → (ps.flatMap rowN)[i * 5]? = some p.2 ∧ (ps.flatMap rowN)[i * 5 + 1]? = some (.int .i64 p.1.at_) ∧ (ps.flatMap rowN)[i * 5 + 2]? = some (.int .i64 p.1.left) ∧ (ps.flatMap rowN)[i * 5 + 3]? = some (.int .i64 p.1.right) ∧ (ps.flatMap rowN)[i * 5 + 4]? = some (.int .i64 p.1.size)
  | [], i, p, h => by simp at h
  | q :: ps, 0, p, h => by
    obtain rfl : q = p := by simpa using h
    exact ⟨rfl, rfl, rfl, rfl, rfl⟩
  | q :: ps, i + 1, p, h => by
    have := rowN_at ps i p (by simpa using h)
    rw [List.flatMap_cons]
    have e1 : (i + 1) * 5 = i * 5 + 1 + 1 + 1 + 1 + 1 := by omega
    rw [e1]
    exact this

theorem own_nodes {w : World} {base e n : Nat} {v : Value} {ps : List (NodeP × Value)} (h : w.ownsRow base e 5 v n (ps.flatMap rowN)) (hn : n = ps.length) (hs : n ≤ 100000)
    (hp : ∀ p ∈ ps, Ints .i64 w p.2 p.1.coef) : NodesR w v (ps.map (·.1)) := by
  subst hn
  rcases h.2 with ⟨rfl, h0⟩ | ⟨g, cap, cur, rfl, hb, hg, h1, h2, h3, h4⟩
  · have : ps = [] := List.eq_nil_of_length_eq_zero h0
    subst this
    exact ⟨none, 0, rfl, by simp, by omega, by simp, fun i x hi => by simp at hi⟩
  · refine ⟨some ⟨g, 0, none⟩, cap, by rw [List.length_map], by rw [List.length_map]; exact h1, by simpa [maxLen] using h2, by rw [List.length_map]; omega, fun i t hi => ?_⟩
    rw [List.getElem?_map] at hi
    cases hpi : ps[i]? with
    | none => rw [hpi] at hi; cases hi
    | some p =>
      rw [hpi] at hi
      obtain rfl : p.1 = t := by simpa using hi
      have hlt : i < ps.length := (List.getElem?_eq_some_iff.1 hpi).1
      obtain ⟨r0, r1, r2, r3, r4⟩ := rowN_at ps i p hpi
      have c0 := (h.cellAt (i * 5) (by omega)).trans r0
      have c1 := (h.cellAt (i * 5 + 1) (by omega)).trans r1
      have c2 := (h.cellAt (i * 5 + 2) (by omega)).trans r2
      have c3 := (h.cellAt (i * 5 + 3) (by omega)).trans r3
      have c4 := (h.cellAt (i * 5 + 4) (by omega)).trans r4
      exact ⟨g, 0, rfl, (Array.getElem?_eq_some_iff.1 hg).1, p.2, hp p (List.mem_of_getElem? hpi), by rw [Nat.zero_add]; exact c0, by rw [Nat.zero_add]; exact c1, by rw [Nat.zero_add]; exact c2, by rw [Nat.zero_add]; exact c3, by rw [Nat.zero_add]; exact c4⟩

def AtB (v : Value) (g : Nat) : Prop := ∃ o n c, v = .slice (some ⟨g, o, none⟩) n c

/-- A tree under way: its struct lies behind the result's cell; nodes, each with the value of its parts. -/
structure TreeSt (w U : World) (D : Int) (tv : Value) (ps : List (NodeP × Value)) : Prop where
  bel : Below w.heap.size w U
  rT : RowAt U (w.heap.size + 1) 106 #[.int .i64 D, tv]
  rR : RowAt U w.heap.size 106 #[.int .i64 0, .slice none 0 0]
  own : U.ownsRow (w.heap.size + 1 + 1) 190 5 tv ps.length (ps.flatMap rowN)
  cf : ∀ p ∈ ps, Ints .i64 U p.2 p.1.coef ∧ ∀ g, AtB p.2 g → g < U.heap.size ∧ w.heap.size + 1 < g ∧ tv.ownBlock ≠ some g

theorem TreeSt.next {w U U1 U2 : World} {D : Int} {tv tv' cv : Value} {ps : List (NodeP × Value)} {n : NodeP} (S : TreeSt w U D tv ps) (hb : Below U.heap.size U U1) (hi : Ints .i64 U1 cv n.coef) (hf : ∀ g, AtB cv g → U.heap.size ≤ g ∧ g < U1.heap.size)
    (hg : U1.grownBy U2 tv.ownBlock) (ho : U2.ownsRow (w.heap.size + 1 + 1) 190 5 tv' (ps.length + 1) (ps.flatMap rowN ++ rowN (n, cv))) (hn : NewB U1 tv tv') : TreeSt w (U2.setCell ⟨w.heap.size + 1, 1, none⟩ tv') D tv' (ps ++ [(n, cv)]) := by
  have hz := hb.size; have hz2 := hg.size
  have hT := S.rT.lt
  have hlow : ∀ g, tv.ownBlock = some g → w.heap.size + 1 + 1 ≤ g ∧ g < U.heap.size := fun g h => S.own.lt g h
  have hlow' : ∀ g, tv'.ownBlock = some g → w.heap.size + 1 + 1 ≤ g := fun g h => (ho.lt g h).1
  have keep : ∀ b, b < U.heap.size → b ≠ w.heap.size + 1 → tv.ownBlock ≠ some b → (U2.setCell ⟨w.heap.size + 1, 1, none⟩ tv').heap[b]? = U.heap[b]? := fun b hlt hne hno =>
    (Below.heap_setCell _ _ _ _ hne).trans ((hg.block b (by omega) fun e => hno e.symm).trans (hb.block b hlt))
  have hno' : ∀ g, g < U1.heap.size → tv.ownBlock ≠ some g → tv'.ownBlock ≠ some g := fun g hlt hne e => by
    rcases hn with h | ⟨b, h, hb'⟩
    · exact hne (by rw [← h]; exact e)
    · rw [h] at e
      injection e with e
      omega
  refine ⟨?_, ?_, ?_, ?_, ?_⟩
  · have h1 : Below w.heap.size w U1 := S.bel.trans (hb.mono S.bel.size)
    have h2 : Below w.heap.size U1 U2 := ⟨hg.os, hg.tape, hg.output, hg.size, fun b hlt => hg.block b (by have := h1.size; omega) fun e => by have := hlow b e.symm; omega⟩
    exact (h1.trans h2).setCell (show w.heap.size ≤ w.heap.size + 1 by omega) _
  · have h2 : RowAt U2 (w.heap.size + 1) 106 #[.int .i64 D, tv] := (hg.block _ (by omega) fun e => by have := hlow _ e.symm; omega).trans ((hb.block _ hT).trans S.rT)
    have h3 := h2.set 1 tv'
    simpa using h3
  · exact (keep _ (by omega) (by omega) fun e => by have := hlow _ e; omega).trans S.rR
  · rw [List.length_append, List.flatMap_append]
    refine own_at (by simpa using ho) fun g hgo => Below.heap_setCell _ _ _ _ fun e => ?_
    have := hlow' g hgo
    have e' : g = w.heap.size + 1 := e
    omega
  · intro p hp
    rcases List.mem_append.1 hp with hp | hp
    · obtain ⟨h1, h2⟩ := S.cf p hp
      refine ⟨ints_kept h1 (fun g hg' => ?_) (by simp; omega), fun g hg' => ?_⟩
      · obtain ⟨q1, q2, q3⟩ := h2 g hg'
        exact keep g q1 (by omega) q3
      · obtain ⟨q1, q2, q3⟩ := h2 g hg'
        exact ⟨by simp; omega, q2, hno' g (by omega) q3⟩
    · obtain rfl : p = (n, cv) := by simpa using hp
      have q3 : ∀ g, AtB cv g → tv.ownBlock ≠ some g := fun g hg' e => by have := hf g hg'; have := hlow g e; omega
      refine ⟨ints_kept hi (fun g hg' => ?_) (by simp; omega), fun g hg' => ?_⟩
      · have q1 := hf g hg'
        exact (Below.heap_setCell _ _ _ _ (by show g ≠ w.heap.size + 1; omega)).trans (hg.block g q1.2 fun e => q3 g hg' e.symm)
      · have q1 := hf g hg'
        exact ⟨by simp; omega, by omega, hno' g q1.2 (q3 g hg')⟩
end Go.Proofs.Ytjmjnkilgoelbaa
