/-
  FlatZ: Walk of copseref15.Put.
-/
import Derived.Test.YtjmjnkilgoelbaaJ2b
import Derived.Test.YtjmjnkilgoelbaaJ7a
import Derived.Test.YtjmjnkilgoelbaaKTreeS
namespace Go.Proofs.Ytjmjnkilgoelbaa
open Go.RowKit

theorem allT_L {l : List TreeP} (h0 : l ≠ []) : allT l = true ↔ ∃ D, ∀ x ∈ l, treeB x = true ∧ x.dim = D := by
  constructor
  · intro h
    refine ⟨dim0 l, fun x hx => ?_⟩
    obtain ⟨i, hi⟩ := List.getElem?_of_mem hx
    exact allT_at h hi
  · rintro ⟨D, h⟩
    have hd : dim0 l = D := by
      cases l with
      | nil => exact absurd rfl h0
      | cons t l => exact (h t (by simp)).2
    unfold allT
    rw [List.all_eq_true]
    intro x hx
    unfold okT
    rw [(h x hx).1, (h x hx).2, hd]
    simp

theorem putC_iff {l : List TreeP} {i : Nat} {t : TreeP} (hall : ∀ x ∈ l, treeB x = true ∧ x.dim = dimL l) (h1 : i ≤ l.length) (h2 : i ≠ 16) :
    putC l i t = 0 ∧ (∃ D, ∀ x ∈ l.take i ++ [t] ++ l.drop (i + 1), treeB x = true ∧ x.dim = D) ∨ putC l i t = 100 ∧ ¬ ∃ D, ∀ x ∈ l.take i ++ [t] ++ l.drop (i + 1), treeB x = true ∧ x.dim = D := by
  unfold putC
  rw [if_neg (by omega), if_neg (by omega), if_neg (by omega)]
  have hmt : t ∈ l.take i ++ [t] ++ l.drop (i + 1) := by simp
  by_cases ht : treeB t = false
  · rw [if_pos ht]
    refine .inr ⟨rfl, ?_⟩
    rintro ⟨D, h⟩
    rw [(h t hmt).1] at ht
    cases ht
  · rw [if_neg ht]
    have hb : treeB t = true := by simpa using ht
    by_cases h3 : 0 < l.length ∧ t.dim ≠ dimL l ∧ (1 < l.length ∨ (i : Int) = 1)
    · rw [if_pos h3]
      refine .inr ⟨rfl, ?_⟩
      rintro ⟨D, h⟩
      obtain ⟨g1, g2, g3⟩ := h3
      have hx : ∃ x ∈ l, x ∈ l.take i ++ [t] ++ l.drop (i + 1) := by
        by_cases hi : i = 0
        · subst hi
          obtain ⟨x, hx⟩ := getElem?_ex (l := l) (k := 1) (by omega)
          refine ⟨x, List.mem_of_getElem? hx, List.mem_append_right _ ?_⟩
          exact List.mem_of_getElem? (i := 0) (by rw [List.getElem?_drop]; exact hx)
        · obtain ⟨x, hx⟩ := getElem?_ex (l := l) (k := 0) g1
          refine ⟨x, List.mem_of_getElem? hx, List.mem_append_left _ (List.mem_append_left _ ?_)⟩
          exact List.mem_of_getElem? (i := 0) (by rw [List.getElem?_take, if_pos (by omega)]; exact hx)
      obtain ⟨x, hx1, hx2⟩ := hx
      exact g2 (by rw [(h t hmt).2, ← (h x hx2).2, (hall x hx1).2])
    · rw [if_neg h3]
      refine .inl ⟨rfl, ?_⟩
      by_cases hd : t.dim = dimL l
      · refine ⟨dimL l, fun x hx => ?_⟩
        simp only [List.mem_append, List.mem_singleton] at hx
        rcases hx with (hx | rfl) | hx
        · exact hall x (List.mem_of_mem_take hx)
        · exact ⟨hb, hd⟩
        · exact hall x (List.mem_of_mem_drop hx)
      · have ho : l.take i ++ [t] ++ l.drop (i + 1) = [t] := by
          rcases Nat.eq_zero_or_pos l.length with h4 | h4
          · have : l = [] := List.eq_nil_of_length_eq_zero h4
            subst this
            simp
          · have h5 : l.length = 1 ∧ i = 0 := by
              constructor
              · rcases Nat.lt_or_ge 1 l.length with h5 | h5
                · exact absurd ⟨h4, hd, .inl h5⟩ h3
                · omega
              · rcases Nat.eq_zero_or_pos i with h5 | h5
                · exact h5
                · exact absurd ⟨h4, hd, by omega⟩ h3
            rw [h5.2, List.drop_of_length_le (by omega)]
            simp
        rw [ho]
        exact ⟨t.dim, fun x hx => by simp at hx; subst hx; exact ⟨hb, rfl⟩⟩

theorem putC_is {l : List TreeP} {i : Nat} {t : TreeP} (hall : ∀ x ∈ l, treeB x = true ∧ x.dim = dimL l) (h1 : i ≤ l.length) (h2 : i ≠ 16) :
    putC l i t = (if (decide (0 < (l.take i ++ [t] ++ l.drop (i + 1)).length) && allT (l.take i ++ [t] ++ l.drop (i + 1))) = true then 0 else 100) := by
  have hne : l.take i ++ [t] ++ l.drop (i + 1) ≠ [] := by simp
  have hp : 0 < (l.take i ++ [t] ++ l.drop (i + 1)).length := List.length_pos_iff.2 hne
  rw [decide_eq_true hp, Bool.true_and]
  rcases putC_iff (t := t) hall h1 h2 with ⟨g1, g2⟩ | ⟨g1, g2⟩
  · rw [g1, if_pos ((allT_L hne).2 g2)]
  · rw [g1, if_neg fun h => g2 ((allT_L hne).1 h)]

theorem putL_is {l : List TreeP} {i : Nat} {t : TreeP} (h : putC l i t = 0) : putL l i t = l.take i ++ [t] ++ l.drop (i + 1) := by
  unfold putL
  rw [if_pos h]
  rfl

theorem set_is {α : Type} {l : List α} {i : Nat} (x : α) (h : i < l.length) : l.set i x = l.take i ++ [x] ++ l.drop (i + 1) := by
  rw [List.set_eq_take_append_cons_drop, if_pos h]
  simp

theorem rowF_set : ∀ (ps : List (TreeP × Value)) (i : Nat) (p : TreeP × Value), i < ps.length → ((ps.flatMap rowF).set (i * 2) (.int .i64 p.1.dim)).set (i * 2 + 1) p.2 = (ps.set i p).flatMap rowF
  | [], i, p, h => by simp at h
  | q :: ps, 0, p, _ => rfl
  | q :: ps, i + 1, p, h => by
    have := rowF_set ps i p (by simpa using h)
    rw [List.set_cons_succ, List.flatMap_cons, List.flatMap_cons, ← this, show (i + 1) * 2 = i * 2 + 1 + 1 by omega]
    rfl

/-- The nodes' values of a slice of trees. -/
theorem trees_vals {w : World} {v : Value} {l : List TreeP} (h : TreesR w v l) : ∃ ps : List (TreeP × Value), ps.map (·.1) = l ∧ (∀ p ∈ ps, NodesR w p.2 p.1.nodes) ∧ ∃ a c, v = .slice a l.length c ∧ ∀ (i : Nat) (p : TreeP × Value), ps[i]? = some p → ∃ b o, a = some ⟨b, o, none⟩ ∧ w.cell? ⟨b, o + i * 2, none⟩ = some (.int .i64 p.1.dim) ∧ w.cell? ⟨b, o + i * 2 + 1, none⟩ = some p.2 := by
  obtain ⟨a, c, e, _, _, _, h⟩ := h
  obtain ⟨V, hV1, hV2⟩ := list_of_ex (m := l.length) (P := fun i (nv : Value) => ∀ t, l[i]? = some t → ∃ b o, a = some ⟨b, o, none⟩ ∧ w.cell? ⟨b, o + i * 2, none⟩ = some (.int .i64 t.dim) ∧ w.cell? ⟨b, o + i * 2 + 1, none⟩ = some nv ∧ NodesR w nv t.nodes) (by
    intro i hi
    obtain ⟨t, ht⟩ := getElem?_ex (l := l) (k := i) hi
    obtain ⟨b, o, nv, g1, _, g3, g4, g5⟩ := h i t ht
    refine ⟨nv, fun t' ht' => ?_⟩
    rw [ht] at ht'
    injection ht' with ht'
    subst ht'
    exact ⟨b, o, g1, g3, g4, g5⟩)
  refine ⟨l.zip V, List.map_fst_zip (by rw [hV1]; exact Nat.le_refl _), fun p hp => ?_, a, c, e, fun i p hp => ?_⟩
  · obtain ⟨i, hi⟩ := List.getElem?_of_mem hp
    rw [List.getElem?_zip_eq_some] at hi
    obtain ⟨_, _, _, _, _, g⟩ := hV2 i p.2 hi.2 p.1 hi.1
    exact g
  · rw [List.getElem?_zip_eq_some] at hp
    obtain ⟨b, o, g1, g2, g3, _⟩ := hV2 i p.2 hp.2 p.1 hp.1
    exact ⟨b, o, g1, g2, g3⟩

theorem flat_rowF_len (ps : List (TreeP × Value)) : (ps.flatMap rowF).length = ps.length * 2 := by
  induction ps with
  | nil => rfl
  | cons p ps ih => rw [List.flatMap_cons, List.length_append, ih, List.length_cons]; show 2 + _ = _; omega

theorem rowF_get {ps : List (TreeP × Value)} {j : Nat} {u : Value} (h : (ps.flatMap rowF)[j]? = some u) : ∃ i p, ps[i]? = some p ∧ (j = i * 2 ∧ u = .int .i64 p.1.dim ∨ j = i * 2 + 1 ∧ u = p.2) := by
  have hj : j < ps.length * 2 := by rw [← flat_rowF_len]; exact (List.getElem?_eq_some_iff.1 h).1
  obtain ⟨p, hp⟩ := getElem?_ex (l := ps) (k := j / 2) (by omega)
  obtain ⟨r0, r1⟩ := rowF_at ps (j / 2) p hp
  refine ⟨j / 2, p, hp, ?_⟩
  rcases Nat.mod_two_eq_zero_or_one j with hm | hm
  · have e : j = j / 2 * 2 := by omega
    rw [e] at h
    rw [r0] at h
    exact .inl ⟨e, by injection h with h; exact h.symm⟩
  · have e : j = j / 2 * 2 + 1 := by omega
    rw [e] at h
    rw [r1] at h
    exact .inr ⟨e, by injection h with h; exact h.symm⟩

set_option maxRecDepth 100000 in
/-- Append of a slice of trees onto a row of the call's own. -/
theorem run_appT (base : Nat) (v : Value) (n : Nat) (xs : List Value) (W : World) (vx : Value) (ps : List (TreeP × Value)) (hown : W.ownsRow base 106 2 v n xs) (a : Option Addr) (c : Nat) (hvx : vx = .slice a ps.length c)
    (hc : ∀ (i : Nat) (p : TreeP × Value), ps[i]? = some p → ∃ b o, a = some ⟨b, o, none⟩ ∧ W.cell? ⟨b, o + i * 2, none⟩ = some (.int .i64 p.1.dim) ∧ W.cell? ⟨b, o + i * 2 + 1, none⟩ = some p.2) (h1 : ∀ p ∈ ps, p.2.oneCell' = true)
    (hb : n + ps.length ≤ 1000000) (hbase : base ≤ W.heap.size) (ty : TypeId) :
    ∃ v' w', (Builtin.append_ #[93, 93] ty #[v, vx]).run Try.prog W = .ok v' w' ∧ w'.ownsRow base 106 2 v' (n + ps.length) (xs ++ ps.flatMap rowF) ∧ W.grownBy w' v.ownBlock ∧ NewB W v v' := by
  obtain ⟨i, hi, hz, hsize, hby, hzs, hsz, _⟩ := eiTree
  subst hvx
  rcases a with _ | ad
  · have hps : ps = [] := by
      cases ps with
      | nil => rfl
      | cons p ps => obtain ⟨b, o, e, _⟩ := hc 0 p rfl; cases e
    subst hps
    have hrun : (Builtin.append_ #[93, 93] ty #[v, .slice none 0 c]).run Try.prog W = .ok v W := by
      rcases hown.2 with ⟨rfl, h0⟩ | ⟨g, cap, cur, rfl, _, _, hnc, _⟩
      · simp [Builtin.append_, run_underlying Try.underlying93, sizeOf, typeInfo, hi, Builtin.lenOf, Builtin.firstCells]
      · simp [Builtin.append_, run_underlying Try.underlying93, sizeOf, typeInfo, hi, Builtin.lenOf, Builtin.firstCells, hnc, storeCells]
    exact ⟨v, W, hrun, by simpa using hown, ⟨rfl, rfl, rfl, Nat.le_refl _, fun _ _ _ => rfl⟩, .inl rfl⟩
  · obtain ⟨v', w', hrun, h2, h3, _, h5⟩ := run_append_own_at (P := Try.prog) W base 93 ty 106 i _ 2 32 Try.underlying93 hi hz hsize hby hzs hsz v n xs hown ad ps.length c (ps.flatMap rowF) (flat_rowF_len _) (by
      intro j u hu
      obtain ⟨k, p, hp, hju⟩ := rowF_get hu
      obtain ⟨b', o', e, c0, c1⟩ := hc k p hp
      injection e with e
      subst e
      rw [Addr.add_lit]
      rcases hju with ⟨rfl, rfl⟩ | ⟨rfl, rfl⟩
      · exact c0
      · rw [← Nat.add_assoc]; exact c1) (fun u hu => by
      obtain ⟨p, hp, hu⟩ := List.mem_flatMap.1 hu
      simp only [rowF, List.mem_cons, List.not_mem_nil, or_false] at hu
      rcases hu with rfl | rfl
      · rfl
      · exact h1 p hp) (by unfold maxLen; omega) (by omega) hbase
    refine ⟨v', w', hrun, h2, h3, ?_⟩
    rcases h5 with h | h
    · exact .inl h
    · exact .inr ⟨_, h, Nat.le_refl _⟩

theorem own_some2 {w : World} {base e size n : Nat} {v : Value} {xs : List Value} (h : w.ownsRow base e size v n xs) (h0 : 1 ≤ n) : ∃ g c, v = .slice (some ⟨g, 0, none⟩) n c ∧ base ≤ g ∧ g < w.heap.size := by
  rcases h.2 with ⟨_, e⟩ | ⟨g, cap, cur, rfl, hb, hrow, _⟩
  · omega
  · exact ⟨g, cap, rfl, hb, (Array.getElem?_eq_some_iff.1 hrow).1⟩

theorem nodes_cell {w : World} {v : Value} {l : List NodeP} (h : NodesR w v l) : v.oneCell' = true := by
  obtain ⟨a, c, rfl, _⟩ := h
  rfl

theorem own_cells {w : World} {base n : Nat} {v : Value} {ps : List (TreeP × Value)} (h : w.ownsRow base 106 2 v n (ps.flatMap rowF)) (hn : n = ps.length) : ∃ a c, v = .slice a ps.length c ∧ ps.length ≤ c ∧ c ≤ 9223372036854775807 ∧
    ∀ (k : Nat) (p : TreeP × Value), ps[k]? = some p → ∃ b o, a = some ⟨b, o, none⟩ ∧ base ≤ b ∧ b < w.heap.size ∧ w.cell? ⟨b, o + k * 2, none⟩ = some (.int .i64 p.1.dim) ∧ w.cell? ⟨b, o + k * 2 + 1, none⟩ = some p.2 := by
  subst hn
  rcases h.2 with ⟨rfl, h0⟩ | ⟨g, cap, cur, rfl, hb, hg, h1, h2, h3, h4⟩
  · have : ps = [] := List.eq_nil_of_length_eq_zero h0
    subst this
    exact ⟨none, 0, rfl, by simp, by omega, fun k p hp => by simp at hp⟩
  · refine ⟨some ⟨g, 0, none⟩, cap, rfl, h1, by simpa [maxLen] using h2, fun k p hp => ?_⟩
    have hlt : k < ps.length := (List.getElem?_eq_some_iff.1 hp).1
    obtain ⟨r0, r1⟩ := rowF_at ps k p hp
    have c0 := (h.cellAt (k * 2) (by omega)).trans r0
    have c1 := (h.cellAt (k * 2 + 1) (by omega)).trans r1
    exact ⟨g, 0, rfl, hb, (Array.getElem?_eq_some_iff.1 hg).1, by rw [Nat.zero_add]; exact c0, by rw [Nat.zero_add]; exact c1⟩

set_option maxRecDepth 100000 in
set_option maxHeartbeats 4000000 in
theorem rput_any (a : Option Addr) (c : Nat) (vt tv : Value) (ps : List (TreeP × Value)) (l : List TreeP) (t : TreeP) (i : Int) (w : World) (hps1 : ps.map (·.1) = l) (hps2 : ∀ p ∈ ps, NodesR w p.2 p.1.nodes)
    (hps3 : ∀ (k : Nat) (p : TreeP × Value), ps[k]? = some p → ∃ b o, a = some ⟨b, o, none⟩ ∧ w.cell? ⟨b, o + k * 2, none⟩ = some (.int .i64 p.1.dim) ∧ w.cell? ⟨b, o + k * 2 + 1, none⟩ = some p.2) (hvt : vt = .agg #[.int .i64 t.dim, tv]) (htn : NodesR w tv t.nodes)
    (hall : ∀ x ∈ l, treeB x = true ∧ x.dim = dimL l) (hlen : l.length ≤ 16) :
    Calls Try.prog 74 #[.slice a l.length c, .int .i64 i, vt] w fun e w' => ∃ v', e = .returned (.tuple #[v', .int .i64 (putC l i t)]) ∧ Below w.heap.size w w' ∧ (putC l i t ≠ 0 → v' = .slice a l.length c) ∧
      (putC l i t = 0 → ∃ (ps' : List (TreeP × Value)) (a' : Option Addr) (c' : Nat), v' = .slice a' (putL l i t).length c' ∧ (putL l i t).length ≤ c' ∧ c' ≤ 9223372036854775807 ∧ ps'.map (·.1) = putL l i t ∧ (∀ p ∈ ps', p ∈ ps ∨ p = (t, tv)) ∧ ∀ (k : Nat) (p : TreeP × Value), ps'[k]? = some p → ∃ b o, a' = some ⟨b, o, none⟩ ∧ w.heap.size ≤ b ∧ b < w'.heap.size ∧ w'.cell? ⟨b, o + k * 2, none⟩ = some (.int .i64 p.1.dim) ∧ w'.cell? ⟨b, o + k * 2 + 1, none⟩ = some p.2) := by
  subst hvt
  have HTN := Lib.hid htn
  obtain ⟨ta, tc, rfl, _⟩ := htn
  obtain ⟨n, hn⟩ : ∃ n, l.length = n := ⟨_, rfl⟩
  have HN := Lib.hid hn
  have hpl : ps.length = n := by rw [← hn, ← hps1, List.length_map]
  obtain ⟨td, htd⟩ : ∃ d, t.dim = d := ⟨_, rfl⟩
  obtain ⟨tm, htm⟩ : ∃ d, t.nodes.length = d := ⟨_, rfl⟩
  have HTD := Lib.hid htd
  rw [hn] at hlen ⊢
  rw [htm] at HTN ⊢
  rw [htd]
  have HPL := Lib.hid hpl
  have HP1 := Lib.hid hps1
  have HP2 := Lib.hid hps2
  have HP3 := Lib.hid hps3
  have HALL := Lib.hid hall
  obtain ⟨C, hC⟩ : ∃ C, putC l i t = C := ⟨_, rfl⟩
  rw [hC]
  have HCC := Lib.hid hC
  clear hn hpl htd htm hps1 hps2 hps3 hall
  by_cases h1 : i < 0
  · have HC1 := Lib.hid (show C = 1 by rw [← hC]; unfold putC; rw [if_pos h1])
    clear hC
    go_enter Try.func74, Try.ntmps74
    go_wp2_with fail
    refine bodyPost_ret (v := .tuple #[.slice a n c, .int .i64 1]) (by simp [results, Try.results74, go_sem]) rfl ⟨_, by rw [HC1.out], by (repeat (first | with_reducible exact Below.refl _ _ | with_reducible refine Bs ?_ | with_reducible refine Ba ?_ | with_reducible refine Bd ?_ | with_reducible refine Bn ?_)), fun _ => rfl, (fun h => by rw [HC1.out] at h; cases h)⟩
  by_cases h2 : (n : Int) < i
  · have HC1 := Lib.hid (show C = 1 by rw [← hC]; unfold putC; rw [if_neg h1, if_pos (by rw [HN.out]; exact h2)])
    clear hC
    go_enter Try.func74, Try.ntmps74
    go_wp2_with fail
    refine bodyPost_ret (v := .tuple #[.slice a n c, .int .i64 1]) (by simp [results, Try.results74, go_sem]) rfl ⟨_, by rw [HC1.out], by (repeat (first | with_reducible exact Below.refl _ _ | with_reducible refine Bs ?_ | with_reducible refine Ba ?_ | with_reducible refine Bd ?_ | with_reducible refine Bn ?_)), fun _ => rfl, (fun h => by rw [HC1.out] at h; cases h)⟩
  by_cases h3 : i = 16
  · subst h3
    have HC1 := Lib.hid (show C = 3 by rw [← hC]; unfold putC; rw [if_neg h1, if_neg (by rw [HN.out]; exact h2), if_pos rfl])
    have hn16 : n = 16 := by omega
    subst hn16
    clear hC h1 h2
    go_enter Try.func74, Try.ntmps74
    go_wp2_with fail
    refine bodyPost_ret (v := .tuple #[.slice a 16 c, .int .i64 3]) (by simp [results, Try.results74, go_sem]) rfl ⟨_, by rw [HC1.out], by (repeat (first | with_reducible exact Below.refl _ _ | with_reducible refine Bs ?_ | with_reducible refine Ba ?_ | with_reducible refine Bd ?_ | with_reducible refine Bn ?_)), fun _ => rfl, (fun h => by rw [HC1.out] at h; cases h)⟩
  obtain ⟨i, rfl⟩ : ∃ k : Nat, i = (k : Int) := ⟨i.toNat, by omega⟩
  have hin : i ≤ n := by omega
  have hCI := putC_is (t := t) HALL.out (by rw [HN.out]; exact hin) (by omega)
  have hL := @putL_is l i t
  obtain ⟨O, hO⟩ : ∃ O, l.take i ++ [t] ++ l.drop (i + 1) = O := ⟨_, rfl⟩
  rw [hO] at hCI hL
  rw [hC] at hCI
  have HCO := Lib.hid hCI
  have HLO := Lib.hid hL
  have HO := Lib.hid hO
  have j3 : ((i : Int) == 16) = false := by simp; omega
  have jl : ¬ (i : Int) < 0 := by omega
  have jg : ¬ (n : Int) < (i : Int) := by omega
  have jg2 : ¬ n < i := by omega
  clear hC hCI hL hO h1 h2 h3
  have hown := rowAt_own (base := w.heap.size + 1) (n := 0) (size := 2) (xs := []) (Nat.le_refl _) (row_new (W := w.alloc (.cells #[.int .i64 td, .slice ta tm tc] 106)) (b := w.heap.size + 1) (T := 106) (cs := #[]) (by simp)) (Nat.le_refl 0) (by unfold maxLen; omega) rfl rfl
  obtain ⟨v5, w5, hr5, o5, g5, nb5⟩ := run_appT (w.heap.size + 1) _ 0 [] _ (.slice a n c) ps hown a c (by rw [HPL.out]) (fun k p hp => by
    obtain ⟨b, o, e, c0, c1⟩ := HP3.out k p hp
    have hb : b < w.heap.size := World.block_lt_of_cell? _ _ c0
    exact ⟨b, o, e, ((show Below w.heap.size w _ from by (repeat (first | with_reducible exact Below.refl _ _ | with_reducible refine Bs ?_ | with_reducible refine Ba ?_ | with_reducible refine Bd ?_ | with_reducible refine Bn ?_))).cell (p := ⟨b, _, none⟩) hb).trans c0, ((show Below w.heap.size w _ from by (repeat (first | with_reducible exact Below.refl _ _ | with_reducible refine Bs ?_ | with_reducible refine Ba ?_ | with_reducible refine Bd ?_ | with_reducible refine Bn ?_))).cell (p := ⟨b, _, none⟩) hb).trans c1⟩) (fun p hp => nodes_cell (HP2.out p hp)) (by rw [HPL.out]; omega) (by simp) 93
  rw [HPL.out, Nat.zero_add, List.nil_append] at o5
  have HR5 := Lib.hid hr5
  have O5 := Lib.hid o5
  have hno : (Value.slice (some ⟨w.heap.size + 1, 0, none⟩) 0 0).ownBlock ≠ some w.heap.size := fun e => by simp [Value.ownBlock] at e
  have z0 : w5.cell? ⟨w.heap.size, 0, none⟩ = some (.int .i64 td) := (gcell g5 (by simp; omega) hno).trans (by go_simp)
  have z1 : w5.cell? ⟨w.heap.size, 1, none⟩ = some (.slice ta tm tc) := (gcell g5 (by simp; omega) hno).trans (by go_simp)
  have hz5 := g5.size
  simp at hz5
  have B5 := Lib.hid (show Below w.heap.size w w5 from (show Below w.heap.size w _ from by (repeat (first | with_reducible exact Below.refl _ _ | with_reducible refine Bs ?_ | with_reducible refine Ba ?_ | with_reducible refine Bd ?_ | with_reducible refine Bn ?_))).trans ⟨g5.os, g5.tape, g5.output, g5.size, fun q hq => g5.block q (by simp; omega) fun e => by (have e' : q = w.heap.size + 1 := by simpa [Value.ownBlock] using e); omega⟩)
  obtain ⟨a5, n5, c5, rfl⟩ := own_shape o5
  obtain rfl : n = n5 := by
    rcases o5.2 with ⟨e, h0⟩ | ⟨_, _, _, e, _⟩
    · injection e with _ e _; omega
    · injection e with _ e _; exact e.symm
  clear hr5 hown o5 g5 nb5 hno
  have hps0 : ∀ p ∈ ps, NodesR w5 p.2 p.1.nodes := fun p hp => (HP2.out p hp).below B5.out
  have HPS := Lib.hid hps0
  clear hps0
  obtain ⟨AB, hAB⟩ : ∃ b, (decide (0 < O.length) && allT O) = b := ⟨_, rfl⟩
  have HRA := Lib.hid (fun v W (hW : TreesR W v O) => hAB ▸ rall_any v O W hW)
  rw [hAB] at HCO
  clear hAB
  by_cases hil : i = n
  · subst hil
    have j5 : ((i : Int) == (i : Int)) = true := by simp
    have HOL := Lib.hid (show O = l ++ [t] by rw [← HO.out, List.take_of_length_le (by rw [HN.out]; exact Nat.le_refl _), List.drop_of_length_le (by rw [HN.out]; omega), List.append_nil])
    go_enter Try.func74, Try.ntmps74
    go_upto_region 6 with (at_builtin; go_must (refine Lib.wpList_append_run _ rfl _ _ _ _ rfl _ _ rfl rfl _ _ HR5.out ?_))
    go_wp2_with (at_builtin; go_must (refine app1N rfl _ _ 93 rfl Try.underlying93 eiTree (w.heap.size + 1) (by rfl) O5.out (by rfl) (by simp) rfl (by simp [Value.oneCell']) (by omega) (by omega) ?_))
    intro v6 w6 o6 g6 nb6
    have B6 := Lib.hid (show Below w5.heap.size w5 w6 ∨ True from .inr trivial)
    have hlow : ∀ g, (Value.slice a5 i c5).ownBlock = some g → w.heap.size + 1 ≤ g := fun g e => (O5.out.lt g e).1
    have B6W := Lib.hid (show Below w.heap.size w w6 from B5.out.trans ⟨g6.os, g6.tape, g6.output, g6.size, fun q hq => g6.block q (by omega) fun e => by have := hlow q e.symm; omega⟩)
    have HTO := Lib.hid (show TreesR w6 v6 O from by
      have h1 := own_trees (ps := ps ++ [(t, .slice ta tm tc)]) (by rw [List.flatMap_append]; simpa [rowF, HTD.out] using o6) (by rw [List.length_append, HPL.out]; rfl) (by omega) (fun p hp => by
        rcases List.mem_append.1 hp with hp | hp
        · exact (HP2.out p hp).below B6W.out
        · obtain rfl : p = (t, .slice ta tm tc) := by simpa using hp
          exact HTN.out.below B6W.out)
      rw [List.map_append, HP1.out] at h1
      rw [HOL.out]
      exact h1)
    have RES6 := Lib.hid (own_cells (ps := ps ++ [(t, .slice ta tm tc)]) (n := i + 1) (v := v6) (w := w6) (base := w.heap.size + 1) (by rw [List.flatMap_append]; simpa [rowF, HTD.out] using o6) (by rw [List.length_append, HPL.out]; rfl))
    have HPO := Lib.hid (show (ps ++ [(t, (.slice ta tm tc : Value))]).map (·.1) = O by rw [List.map_append, HP1.out, HOL.out]; rfl)
    have HPM := Lib.hid (show ∀ p ∈ ps ++ [(t, (.slice ta tm tc : Value))], p ∈ ps ∨ p = (t, .slice ta tm tc) from fun p hp => by simpa using hp)
    obtain ⟨a6, n6, c6, rfl⟩ := own_shape o6
    have hz6 := B6W.out.size
    clear o6 g6 nb6 hlow B6
    go_wp2_with fail
    (with_reducible refine (HRA.out _ _ HTO.out).mono ?_)
    rintro e w7 ⟨rfl, b7⟩
    have B7 := Lib.hid (show Below w.heap.size w w7 from B6W.out.trans (b7.mono hz6))
    have RES := Lib.hid (show ∃ (ps' : List (TreeP × Value)) (a' : Option Addr) (c' : Nat), Value.slice a6 n6 c6 = .slice a' O.length c' ∧ O.length ≤ c' ∧ c' ≤ 9223372036854775807 ∧ ps'.map (·.1) = O ∧ (∀ p ∈ ps', p ∈ ps ∨ p = (t, (.slice ta tm tc : Value))) ∧ ∀ (k : Nat) (p : TreeP × Value), ps'[k]? = some p → ∃ b o, a' = some ⟨b, o, none⟩ ∧ w.heap.size ≤ b ∧ b < w7.heap.size ∧ w7.cell? ⟨b, o + k * 2, none⟩ = some (.int .i64 p.1.dim) ∧ w7.cell? ⟨b, o + k * 2 + 1, none⟩ = some p.2 from by
      obtain ⟨a', c', e, h1, h2, h3⟩ := RES6.out
      have hlO : (ps ++ [(t, (.slice ta tm tc : Value))]).length = O.length := by rw [← HPO.out, List.length_map]
      refine ⟨_, a', c', by rw [← hlO]; exact e, by rw [← hlO]; exact h1, h2, HPO.out, HPM.out, fun k p hp => ?_⟩
      obtain ⟨b, o, e, hb, hlt, c0, c1⟩ := h3 k p hp
      exact ⟨b, o, e, by omega, Nat.lt_of_lt_of_le hlt b7.size, (b7.cell (p := ⟨b, _, none⟩) hlt).trans c0, (b7.cell (p := ⟨b, _, none⟩) hlt).trans c1⟩)
    clear b7
    cases AB with
    | true =>
      have HC1 := Lib.hid (show C = 0 from HCO.out.trans (if_pos rfl))
      go_wp2_with fail
      exact bodyPost_ret (v := .tuple #[.slice a6 n6 c6, .int .i64 0]) (by simp [results, Try.results74, go_sem]) rfl ⟨_, by rw [HC1.out], B7.out, fun h => absurd HC1.out h, fun _ => by rw [HLO.out (HCC.out.trans HC1.out)]; exact RES.out⟩
    | false =>
      have HC1 := Lib.hid (show C = 100 from HCO.out.trans (if_neg (by simp)))
      go_wp2_with fail
      exact bodyPost_ret (v := .tuple #[.slice a i c, .int .i64 100]) (by simp [results, Try.results74, go_sem]) rfl ⟨_, by rw [HC1.out], B7.out, fun _ => rfl, (fun h => by rw [HC1.out] at h; cases h)⟩
  · have hlt : i < n := by omega
    have j5 : ((i : Int) == (n : Int)) = false := by simp; omega
    obtain ⟨g, c6, e5, hg, hgw⟩ := own_some2 O5.out (by omega)
    injection e5 with e5 _ e6
    subst e5
    subst e6
    have HOL := Lib.hid (show O = l.set i t by rw [← HO.out, set_is t (by rw [HN.out]; exact hlt)])
    have hps : ps.length = n := HPL.out
    obtain ⟨p0, hp0⟩ := getElem?_ex (l := ps) (k := i) (by omega)
    obtain ⟨r0, r1⟩ := rowF_at ps i p0 hp0
    have x0 : w5.cell? ⟨g, i * 2, none⟩ = some (.int .i64 p0.1.dim) := (O5.out.cellAt (i * 2) (by omega)).trans r0
    have x1 : w5.cell? ⟨g, i * 2 + 1, none⟩ = some p0.2 := (O5.out.cellAt (i * 2 + 1) (by omega)).trans r1
    have f0 : w5.frozen? ⟨g, i * 2, none⟩ = false := O5.out.frozenAt _
    have f1 : w5.frozen? ⟨g, i * 2 + 1, none⟩ = false := O5.out.frozenAt _
    have i1 : (0 : Int) ≤ (i : Int) := by omega
    have i2 : (i : Int) < (n : Int) := by omega
    have hgH : g ≠ w.heap.size := by omega
    have hs1 := (O5.out.stored (i * 2) (.int .i64 td)).1.stored (i * 2 + 1) (.slice ta tm tc)
    have hset := rowF_set ps i (t, .slice ta tm tc) (by omega)
    dsimp only at hset
    rw [HTD.out] at hset
    rw [hset] at hs1
    have B6W := Lib.hid (show Below w.heap.size w ((w5.setCell ⟨g, i * 2, none⟩ (.int .i64 td)).setCell ⟨g, i * 2 + 1, none⟩ (.slice ta tm tc)) from by (repeat (first | with_reducible exact Below.refl _ _ | with_reducible refine Bs ?_ | with_reducible refine Ba ?_ | with_reducible refine Bd ?_ | with_reducible refine Bn ?_ | with_reducible refine Bt B5.out ?_)))
    have HTO := Lib.hid (show TreesR ((w5.setCell ⟨g, i * 2, none⟩ (.int .i64 td)).setCell ⟨g, i * 2 + 1, none⟩ (.slice ta tm tc)) (.slice (some ⟨g, 0, none⟩) n c5) O from by
      have h1 := own_trees (ps := ps.set i (t, .slice ta tm tc)) hs1.1 (by rw [List.length_set, HPL.out]) (by omega) (fun p hp => by
        rcases List.mem_or_eq_of_mem_set hp with hp | hp
        · exact (HP2.out p hp).below B6W.out
        · subst hp
          exact HTN.out.below B6W.out)
      rw [List.map_set, HP1.out] at h1
      rw [HOL.out]
      exact h1)
    have RES6 := Lib.hid (own_cells (ps := ps.set i (t, .slice ta tm tc)) (n := n) hs1.1 (by rw [List.length_set, HPL.out]))
    have HPO := Lib.hid (show (ps.set i (t, (.slice ta tm tc : Value))).map (·.1) = O by rw [List.map_set, HP1.out, HOL.out])
    have HPM := Lib.hid (show ∀ p ∈ ps.set i (t, (.slice ta tm tc : Value)), p ∈ ps ∨ p = (t, .slice ta tm tc) from fun p hp => List.mem_or_eq_of_mem_set hp)
    clear hs1 hset r0 r1 hp0 hps
    go_enter Try.func74, Try.ntmps74
    go_wp2_with (at_builtin; go_must (refine Lib.wpList_append_run _ rfl _ _ _ _ rfl _ _ rfl rfl _ _ HR5.out ?_))
    go_wp2_with fail
    obtain ⟨W6, hW6⟩ : ∃ W, (w5.setCell ⟨g, i * 2, none⟩ (.int .i64 td)).setCell ⟨g, i * 2 + 1, none⟩ (.slice ta tm tc) = W := ⟨_, rfl⟩
    rw [hW6] at HTO B6W RES6
    rw [hW6]
    have hz6 := B6W.out.size
    clear hW6
    (with_reducible refine (HRA.out _ _ HTO.out).mono ?_)
    rintro e w7 ⟨rfl, b7⟩
    have B7 := Lib.hid (show Below w.heap.size w w7 from B6W.out.trans (b7.mono hz6))
    have RES := Lib.hid (show ∃ (ps' : List (TreeP × Value)) (a' : Option Addr) (c' : Nat), Value.slice (some ⟨g, 0, none⟩) n c5 = .slice a' O.length c' ∧ O.length ≤ c' ∧ c' ≤ 9223372036854775807 ∧ ps'.map (·.1) = O ∧ (∀ p ∈ ps', p ∈ ps ∨ p = (t, (.slice ta tm tc : Value))) ∧ ∀ (k : Nat) (p : TreeP × Value), ps'[k]? = some p → ∃ b o, a' = some ⟨b, o, none⟩ ∧ w.heap.size ≤ b ∧ b < w7.heap.size ∧ w7.cell? ⟨b, o + k * 2, none⟩ = some (.int .i64 p.1.dim) ∧ w7.cell? ⟨b, o + k * 2 + 1, none⟩ = some p.2 from by
      obtain ⟨a', c', e, h1, h2, h3⟩ := RES6.out
      have hlO : (ps.set i (t, (.slice ta tm tc : Value))).length = O.length := by rw [← HPO.out, List.length_map]
      refine ⟨_, a', c', by rw [← hlO]; exact e, by rw [← hlO]; exact h1, h2, HPO.out, HPM.out, fun k p hp => ?_⟩
      obtain ⟨b, o, e, hb, hlt, c0, c1⟩ := h3 k p hp
      exact ⟨b, o, e, by omega, Nat.lt_of_lt_of_le hlt b7.size, (b7.cell (p := ⟨b, _, none⟩) hlt).trans c0, (b7.cell (p := ⟨b, _, none⟩) hlt).trans c1⟩)
    clear b7
    cases AB with
    | true =>
      have HC1 := Lib.hid (show C = 0 from HCO.out.trans (if_pos rfl))
      go_wp2_with fail
      exact bodyPost_ret (v := .tuple #[.slice (some ⟨g, 0, none⟩) n c5, .int .i64 0]) (by simp [results, Try.results74, go_sem]) rfl ⟨_, by rw [HC1.out], B7.out, fun h => absurd HC1.out h, fun _ => by rw [HLO.out (HCC.out.trans HC1.out)]; exact RES.out⟩
    | false =>
      have HC1 := Lib.hid (show C = 100 from HCO.out.trans (if_neg (by simp)))
      go_wp2_with fail
      exact bodyPost_ret (v := .tuple #[.slice a n c, .int .i64 100]) (by simp [results, Try.results74, go_sem]) rfl ⟨_, by rw [HC1.out], B7.out, fun _ => rfl, (fun h => by rw [HC1.out] at h; cases h)⟩
end Go.Proofs.Ytjmjnkilgoelbaa
