/-
  ForF: Walks of copseref14.Trees, Much, Is and asked.
  ForD: Walks of forest.Trees, Oldest and Ages.
-/
import Derived.Test.YtdbonlpkmncggaaKForA
import Derived.Test.YtdbonlpkmncggaaJ0a
import Derived.Test.YtdbonlpkmncggaaJ2b
import Derived.Test.YtdbonlpkmncggaaJ2a
import Derived.Test.YtdbonlpkmncggaaKForC
namespace Go.Proofs.Ytdbonlpkmncggaa
open Go.RowKit

def toF (p : GrV) : TreeP × Value := (p.1.1, p.2)

set_option maxRecDepth 100000 in
set_option maxHeartbeats 4000000 in
theorem rtrees14_any (a : Option Addr) (n c : Nat) (ps : List GrV) (w : World) (hl : ps.length = n) (hn : n ≤ 1000000) (hsh : ∀ p ∈ ps, ∃ na m nc, p.2 = .slice na m nc)
    (hc : ∀ (i : Nat) (p : GrV), ps[i]? = some p → ∃ b o, a = some ⟨b, o, none⟩ ∧ b < w.heap.size ∧ w.cell? ⟨b, o + i * 3, none⟩ = some (.int .i64 p.1.1.dim) ∧ w.cell? ⟨b, o + i * 3 + 1, none⟩ = some p.2) :
    Calls Try.prog 16 #[.slice a n c] w fun e w' => ∃ v', e = .returned v' ∧ w'.ownsRow w.heap.size 38 2 v' n ((ps.map toF).flatMap rowF) ∧ Below w.heap.size w w' := by
  have HL := Lib.hid hl
  have HS := Lib.hid hsh
  have HC := Lib.hid hc
  have hnb : (n : Int) ≤ 1000000 := by omega
  clear hl hsh hc
  go_enter Try.func16, Try.ntmps16
  go_wp2_with fail
  go_loopw [3, 4] (fun o idx wr => ∃ k : Nat, idx = .int .i64 k ∧ k ≤ n ∧ wr.ownsRow w.heap.size 38 2 o k (((ps.take k).map toF).flatMap rowF) ∧ Below w.heap.size w wr) (fun _ idx _ => n - (intOf idx).toNat)
  case atStart => exact ⟨0, rfl, by omega, World.ownsRow_nil _ _ _ _, Below.refl _ _⟩
  case round =>
    obtain ⟨k, rfl, hk, hown, hbr⟩ := hrel
    have HO := Lib.hid hown
    have BR := Lib.hid hbr
    have hz := hbr.size
    by_cases hlt : k < n
    · obtain ⟨p, hp⟩ := getElem?_ex (l := ps) (k := k) (by rw [HL.out]; exact hlt)
      obtain ⟨b, o, rfl, hb, c0, c1⟩ := HC.out k p hp
      have e0 := (hbr.cell (p := ⟨b, o + k * 3, none⟩) hb).trans c0
      have e1 := (hbr.cell (p := ⟨b, o + k * 3 + 1, none⟩) hb).trans c1
      obtain ⟨na, m, nc, hpv⟩ := HS.out p (List.mem_of_getElem? hp)
      have HTK := Lib.hid (show ((ps.take (k + 1)).map toF).flatMap rowF = ((ps.take k).map toF).flatMap rowF ++ [.int .i64 p.1.1.dim, .slice na m nc] by
        rw [List.take_add_one, hp, List.map_append, List.flatMap_append, ← hpv]; rfl)
      rw [hpv] at e1
      have i1 : (0 : Int) ≤ (k : Int) := by omega
      have i2 : (k : Int) < (n : Int) := by omega
      generalize p.1.1.dim = d at *
      obtain ⟨XS, hXS⟩ : ∃ XS, ((ps.take k).map toF).flatMap rowF = XS := ⟨_, rfl⟩
      rw [hXS] at HO HTK
      clear c0 c1 hp hown hbr hpv hXS
      go_wp2_with (at_builtin; go_must (refine app1 rfl _ _ 31 rfl Try.underlying31 eiTree w.heap.size (by rfl) HO.out (by rfl) rfl (by simp [Value.oneCell']) (by omega) (by omega) ?_))
      intro v5 w5 hown5 hb5 _
      have OWN5 := Lib.hid hown5
      have B5 := Lib.hid (show Below w.heap.size w w5 from below_tr BR.out hb5)
      clear hown5 hb5
      go_wp2_with fail
      go_roundw
      case rel => exact ⟨k + 1, by go_num, by omega, by rw [HTK.out]; exact OWN5.out, B5.out⟩
      case measure => simp [intOf] <;> omega
    · obtain rfl : k = n := by omega
      rw [List.take_of_length_le (by rw [HL.out]; exact Nat.le_refl _)] at hown
      have HOW := Lib.hid hown
      obtain ⟨oa, om, oc, rfl⟩ := own_shape hown
      clear hown
      go_wp2_with fail
      go_ret
      exact ⟨_, rfl, HOW.out, BR.out⟩

theorem trees14_in (v : Value) (l : List (TreeP × Int)) (w : World) (h : GrownsR w v l) (hn : l.length ≤ 1000) :
    Calls Try.prog 16 #[v] w fun e w' => ∃ v', e = .returned v' ∧ TreesR w' v' (l.map (·.1)) ∧ Below w.heap.size w w' := by
  obtain ⟨ps, hp1, hp2, ad, cc, rfl, hp3⟩ := growns_vals h
  have hl : ps.length = l.length := by rw [← hp1, List.length_map]
  refine (rtrees14_any ad l.length cc ps w hl (by omega) (fun p hp => ?_) (fun i p hp => ?_)).mono ?_
  · obtain ⟨_, a, c, e, _⟩ := hp2 p hp
    exact ⟨a, _, c, e⟩
  · obtain ⟨b, o, g1, g2, g3, g4, _⟩ := hp3 i p hp
    exact ⟨b, o, g1, g2, g3, g4⟩
  · rintro e w' ⟨v', rfl, ho, hb⟩
    refine ⟨v', rfl, ?_, hb⟩
    have := own_trees ho (by rw [List.length_map, hl]) (by omega) (fun q hq => by
      obtain ⟨p, hp, rfl⟩ := List.mem_map.1 hq
      exact ((hp2 p hp).2.below hb))
    rw [List.map_map] at this
    rw [← hp1, List.map_map]
    exact this

def muchG (l : List (TreeP × Int)) : Bool := decide (30 < l.length) || muchT (l.map (·.1))

theorem argGrowns_vals {w : World} {v : Value} {l : List (TreeP × Int)} (h : ArgGrowns w v l) : ∃ ps : List GrV, ps.map (·.1) = l ∧ (∀ p ∈ ps, ArgNodes w p.2 p.1.1.nodes) ∧ ∃ a c, v = .slice a l.length c ∧
    ∀ (i : Nat) (p : GrV), ps[i]? = some p → ∃ b o, a = some ⟨b, o, none⟩ ∧ b < w.heap.size ∧ w.cell? ⟨b, o + i * 3, none⟩ = some (.int .i64 p.1.1.dim) ∧ w.cell? ⟨b, o + i * 3 + 1, none⟩ = some p.2 := by
  obtain ⟨a, c, e, _, _, h⟩ := h
  obtain ⟨V, hV1, hV2⟩ := list_of_ex (m := l.length) (P := fun i (nv : Value) => ∀ t, l[i]? = some t → ∃ b o, a = some ⟨b, o, none⟩ ∧ b < w.heap.size ∧ w.cell? ⟨b, o + i * 3, none⟩ = some (.int .i64 t.1.dim) ∧ w.cell? ⟨b, o + i * 3 + 1, none⟩ = some nv ∧ ArgNodes w nv t.1.nodes) (by
    intro i hi
    obtain ⟨t, ht⟩ := getElem?_ex (l := l) (k := i) hi
    obtain ⟨b, o, nv, g1, g2, g3, g4, _, _, g7⟩ := h i t ht
    refine ⟨nv, fun t' ht' => ?_⟩
    rw [ht] at ht'
    injection ht' with ht'
    subst ht'
    exact ⟨b, o, g1, g2, g3, g4, g7⟩)
  refine ⟨l.zip V, List.map_fst_zip (by rw [hV1]; exact Nat.le_refl _), fun p hp => ?_, a, c, e, fun i p hp => ?_⟩
  · obtain ⟨i, hi⟩ := List.getElem?_of_mem hp
    rw [List.getElem?_zip_eq_some] at hi
    obtain ⟨_, _, _, _, _, _, g7⟩ := hV2 i p.2 hi.2 p.1 hi.1
    exact g7
  · rw [List.getElem?_zip_eq_some] at hp
    obtain ⟨b, o, g1, g2, g3, g4, _⟩ := hV2 i p.2 hp.2 p.1 hp.1
    exact ⟨b, o, g1, g2, g3, g4⟩

theorem own_argTrees {w : World} {base e n : Nat} {v : Value} {ps : List (TreeP × Value)} (h : w.ownsRow base e 2 v n (ps.flatMap rowF)) (hn : n = ps.length)
    (hp : ∀ p ∈ ps, ArgNodes w p.2 p.1.nodes) : ArgTrees w v (ps.map (·.1)) := by
  subst hn
  rcases h.2 with ⟨rfl, h0⟩ | ⟨g, cap, cur, rfl, hb, hg, h1, h2, h3, h4⟩
  · have : ps = [] := List.eq_nil_of_length_eq_zero h0
    subst this
    exact ⟨none, 0, rfl, by simp, by omega, fun i x hi => by simp at hi⟩
  · refine ⟨some ⟨g, 0, none⟩, cap, by rw [List.length_map], by rw [List.length_map]; exact h1, by simpa [maxLen] using h2, fun i t hi => ?_⟩
    rw [List.getElem?_map] at hi
    cases hpi : ps[i]? with
    | none => rw [hpi] at hi; cases hi
    | some p =>
      rw [hpi] at hi
      obtain rfl : p.1 = t := by simpa using hi
      have hlt : i < ps.length := (List.getElem?_eq_some_iff.1 hpi).1
      obtain ⟨r0, r1⟩ := rowF_at ps i p hpi
      have c0 := (h.cellAt (i * 2) (by omega)).trans r0
      have c1 := (h.cellAt (i * 2 + 1) (by omega)).trans r1
      exact ⟨g, 0, p.2, rfl, (Array.getElem?_eq_some_iff.1 hg).1, by rw [Nat.zero_add]; exact c0, by rw [Nat.zero_add]; exact c1, hp p (List.mem_of_getElem? hpi)⟩

theorem trees14_arg (v : Value) (l : List (TreeP × Int)) (w : World) (h : ArgGrowns w v l) (hn : l.length ≤ 1000) :
    Calls Try.prog 16 #[v] w fun e w' => ∃ v', e = .returned v' ∧ ArgTrees w' v' (l.map (·.1)) ∧ Below w.heap.size w w' := by
  obtain ⟨ps, hp1, hp2, ad, cc, rfl, hp3⟩ := argGrowns_vals h
  have hl : ps.length = l.length := by rw [← hp1, List.length_map]
  refine (rtrees14_any ad l.length cc ps w hl (by omega) (fun p hp => ?_) hp3).mono ?_
  · obtain ⟨a, c, e, _⟩ := hp2 p hp
    exact ⟨a, _, c, e⟩
  · rintro e w' ⟨v', rfl, ho, hb⟩
    refine ⟨v', rfl, ?_, hb⟩
    have := own_argTrees ho (by rw [List.length_map, hl]) (fun q hq => by
      obtain ⟨p, hp, rfl⟩ := List.mem_map.1 hq
      exact ((hp2 p hp).below hb))
    rw [List.map_map] at this
    rw [← hp1, List.map_map]
    exact this

set_option maxHeartbeats 1000000 in
theorem rmuch14_any (v : Value) (l : List (TreeP × Int)) (w : World) (h : ArgGrowns w v l) :
    Calls Try.prog 9 #[v] w fun e w' => e = .returned (.bool (muchG l)) ∧ Below w.heap.size w w' := by
  have HA := Lib.hid h
  unfold muchG
  by_cases h2 : 30 < l.length
  · rw [decide_eq_true h2, Bool.true_or]
    obtain ⟨ad, cc, rfl, hc1, hc2, _⟩ := h
    obtain ⟨n, hn⟩ : ∃ n, l.length = n := ⟨_, rfl⟩
    rw [hn] at h2 hc1 ⊢
    clear hn
    have hnb : (n : Int) ≤ 9223372036854775807 := by omega
    have h3 : (30 : Int) < n := by omega
    go_enter Try.func9, Try.ntmps9
    go_wp2_with fail
    go_ret
    exact ⟨rfl, by (repeat (first | with_reducible exact Below.refl _ _ | with_reducible refine Bs ?_ | with_reducible refine Ba ?_ | with_reducible refine Bd ?_ | with_reducible refine Bn ?_))⟩
  · rw [decide_eq_false h2, Bool.false_or]
    have HT := Lib.hid (fun W (hW : ArgGrowns W v l) => trees14_arg v l W hW (by omega))
    have HM := Lib.hid (fun v' W (hW : ArgTrees W v' (l.map (·.1))) => rmuch12_any v' _ W hW)
    obtain ⟨ad, cc, rfl, hc1, hc2, _⟩ := h
    generalize l.map (·.1) = L at *
    generalize muchT L = M at *
    obtain ⟨n, hn⟩ : ∃ n, l.length = n := ⟨_, rfl⟩
    rw [hn] at h2 hc1 HA HT ⊢
    clear hn
    have h3 : (n : Int) ≤ 30 := by omega
    have j3 : decide ((30 : Int) < n) = false := decide_eq_false (by omega)
    go_enter Try.func9, Try.ntmps9
    go_wp2_with fail
    (with_reducible refine (HT.out _ (HA.out.below (by (repeat (first | with_reducible exact Below.refl _ _ | with_reducible refine Bs ?_ | with_reducible refine Ba ?_ | with_reducible refine Bd ?_ | with_reducible refine Bn ?_))))).mono ?_)
    rintro e w1 ⟨v1, rfl, t1, b1⟩
    have T1 := Lib.hid t1
    have B1 := Lib.hid b1
    obtain ⟨ta, tc, rfl, _⟩ := t1
    clear b1
    go_wp2_with fail
    (with_reducible refine (HM.out _ _ T1.out).mono ?_)
    rintro e w2 ⟨rfl, b2⟩
    have B2 := Lib.hid (show Below w.heap.size w w2 from B1.out.trans (b2.mono B1.out.size))
    clear b2
    go_wp2_with fail
    go_ret
    exact ⟨by first | rfl | (simp [j3]; done), B2.out⟩
end Go.Proofs.Ytdbonlpkmncggaa

namespace Go.Proofs.Ytdbonlpkmncggaa
open Go.RowKit

/-- Not more than is waited for. -/
def smallT (t : TreeP) : Prop := t.nodes.length ≤ 1000 ∧ ∀ n ∈ t.nodes, n.coef.length ≤ 1000
def smallF (l : List (TreeP × Int)) : Prop := l.length ≤ 1000 ∧ ∀ p ∈ l, smallT p.1

set_option maxRecDepth 100000 in
set_option maxHeartbeats 4000000 in
theorem ftrees_any (v : Value) (l : List (TreeP × Int)) (w : World) (h : GrownsR w v l) (hs : smallF l) :
    Calls Try.prog 15 #[v] w fun e w' => ∃ v', e = .returned v' ∧ TreesR w' v' (l.map (·.1)) ∧ Below w.heap.size w w' := by
  obtain ⟨ps, hp1, hp2, ad, cc, rfl, hp3⟩ := growns_vals h
  have HP1 := Lib.hid hp1
  have HP2 := Lib.hid hp2
  have HP3 := Lib.hid hp3
  have HS := Lib.hid hs.2
  have hln := hs.1
  have hql : ps.length = l.length := by rw [← hp1, List.length_map]
  obtain ⟨n, hnn⟩ : ∃ n, l.length = n := ⟨_, rfl⟩
  rw [hnn] at hql hln ⊢
  have HN := Lib.hid hnn
  have HQL := Lib.hid hql
  clear h hp1 hp2 hp3 hs hql hnn
  go_enter Try.func15, Try.ntmps15
  go_wp2_with (at_make; go_must (refine mkcap rfl _ _ 31 rfl Try.underlying31 eiTree 0 n (by rfl) (by rfl) (by rfl) (by rfl) (by omega) (by omega) ?_))
  intro w2 cur r2 hcs hb2 hz2
  have hown := rowAt_own (base := w.heap.size) (n := 0) (size := 2) (xs := []) (Nat.le_refl _) r2 (Nat.zero_le n) (by unfold maxLen; omega) (by omega) (by simp)
  have HOWN := Lib.hid hown
  have B2 := Lib.hid hb2
  clear hown r2 hcs hb2 hz2
  go_wp2_with fail
  go_loopw [3, 5, 11] (fun o _ idx wr => ∃ (k : Nat) (qs : List (TreeP × Value)), idx = .int .i64 k ∧ k ≤ n ∧ qs.map (·.1) = (l.take k).map (·.1) ∧ qs.length = k ∧ wr.ownsRow w.heap.size 38 2 o k (qs.flatMap rowF) ∧ (∀ q ∈ qs, Apart o.ownBlock wr q.2 q.1.nodes) ∧ Below w.heap.size w wr) (fun _ _ idx _ => n - (intOf idx).toNat)
  case atStart => exact ⟨0, [], rfl, by omega, rfl, rfl, HOWN.out, fun q hq => (by simp at hq), B2.out⟩
  case round =>
    obtain ⟨k, qs, rfl, hk, hqs, hqk, hown, hnr, hbr⟩ := hrel
    have HQS := Lib.hid hqs
    have HO := Lib.hid hown
    have HNR := Lib.hid hnr
    have BR := Lib.hid hbr
    have HQK := Lib.hid hqk
    have hz := hbr.size
    clear HOWN B2
    by_cases hlt : k < n
    · obtain ⟨p, hp⟩ := getElem?_ex (l := ps) (k := k) (by rw [HQL.out]; exact hlt)
      obtain ⟨b, o, rfl, hb, c0, c1, c2⟩ := HP3.out k p hp
      have hlp : l[k]? = some p.1 := by rw [← HP1.out, List.getElem?_map, hp]; rfl
      have e0 := (hbr.cell (p := ⟨b, o + k * 3, none⟩) hb).trans c0
      have e1 := (hbr.cell (p := ⟨b, o + k * 3 + 1, none⟩) hb).trans c1
      have e2 := (hbr.cell (p := ⟨b, o + k * 3 + 2, none⟩) hb).trans c2
      have hnp := (HP2.out p (List.mem_of_getElem? hp)).2
      have HT := Lib.hid (show TreeR w (.agg #[.int .i64 p.1.1.dim, p.2]) p.1.1 from ⟨p.2, rfl, hnp⟩)
      have hsm := HS.out p.1 (List.mem_of_getElem? hlp)
      have HC := Lib.hid (fun W (hW : TreeR W (.agg #[.int .i64 p.1.1.dim, p.2]) p.1.1) => copied_any _ p.1.1 W hW hsm.1 hsm.2)
      have HTK := Lib.hid (show (l.take (k + 1)).map (·.1) = (l.take k).map (·.1) ++ [p.1.1] by rw [List.take_add_one, hlp, List.map_append]; rfl)
      obtain ⟨na, nc, hpv, _⟩ := hnp
      obtain ⟨tn, htn⟩ : ∃ tn, p.1.1.nodes.length = tn := ⟨_, rfl⟩
      rw [hpv, htn] at e1 HT HC
      have i1 : (0 : Int) ≤ (k : Int) := by omega
      have i2 : (k : Int) < (n : Int) := by omega
      have hbz : b < wr.heap.size := by omega
      have hbz2 : b ≠ wr.heap.size := by omega
      clear c0 c1 c2 hp hlp hsm hown hnr hbr hqs hpv hqk htn
      obtain ⟨t, ht⟩ : ∃ t, p.1.1 = t := ⟨_, rfl⟩
      rw [ht] at e0 HT HC HTK
      clear ht
      obtain ⟨d, hd⟩ : ∃ d, t.dim = d := ⟨_, rfl⟩
      rw [hd] at e0 HT HC
      have HD := Lib.hid hd
      generalize p.1.2 = z at *
      clear hd
      go_wp2_with fail
      (with_reducible refine (HC.out _ ((HT.out.below BR.out).below (by (repeat (first | with_reducible exact Below.refl _ _ | with_reducible refine Bs ?_ | with_reducible refine Ba ?_ | with_reducible refine Bd ?_ | with_reducible refine Bn ?_))))).mono ?_)
      rintro e w4 ⟨nv, rfl, n4, b4⟩
      have B4 := Lib.hid (show Below wr.heap.size wr w4 from below_tr (by (repeat (first | with_reducible exact Below.refl _ _ | with_reducible refine Bs ?_ | with_reducible refine Ba ?_ | with_reducible refine Bd ?_ | with_reducible refine Bn ?_))) (b4.mono (by first | omega | (simp; done) | (simp; omega))))
      have N4 := Lib.hid n4
      obtain ⟨a4, c4, rfl, _⟩ := n4.now
      obtain ⟨tn4, htn4⟩ : ∃ tn, t.nodes.length = tn := ⟨_, rfl⟩
      rw [htn4] at N4 ⊢
      clear n4 htn4
      clear b4
      go_wp2_with (at_builtin; go_must (refine app1N rfl _ _ 31 rfl Try.underlying31 eiTree w.heap.size (by rfl) (own_keep HO.out fun g _ hg => B4.out.block g hg) (by rfl) (by rfl) rfl (by simp [Value.oneCell']) (by omega) (by have := B4.out.size; omega) ?_))
      intro v5 w5 o5 g5 nb5
      have O5 := Lib.hid o5
      have B5 := Lib.hid (show Below w.heap.size w w5 from (BR.out.trans (B4.out.mono BR.out.size)).grown g5 (by have := B4.out.size; omega) (fun q hq => (HO.out.lt q hq).1))
      have HNR := Lib.hid (show ∀ q ∈ qs ++ [(t, .slice a4 tn4 c4)], Apart v5.ownBlock w5 q.2 q.1.nodes from fun q hq => by
        rcases List.mem_append.1 hq with hq | hq
        · exact ((HNR.out q hq).later B4.out).grown g5 nb5
        · obtain rfl : q = (t, .slice a4 tn4 c4) := by simpa using hq
          exact (N4.out.apart (fun b hb => by have := (HO.out.lt b hb).2; simp; omega)).grown g5 nb5)
      clear o5 g5 nb5
      go_wp2_with fail
      go_roundw
      case rel =>
        exact ⟨k + 1, qs ++ [(t, .slice a4 tn4 c4)], by go_num, by omega, by rw [List.map_append, HQS.out, HTK.out]; rfl, by rw [List.length_append, HQK.out]; rfl, by have := O5.out; rw [← HD.out] at this; simpa [rowF] using this, HNR.out, B5.out⟩
      case measure => simp [intOf] <;> omega
    · obtain rfl : k = n := by omega
      have ht := own_trees hown HQK.out.symm (by omega) (fun q hq => (HNR.out q hq).now)
      rw [hqs, List.take_of_length_le (by rw [HN.out]; omega)] at ht
      have HTT := Lib.hid ht
      obtain ⟨oa, om, oc, rfl⟩ := own_shape hown
      clear ht hown hqs hqk
      go_wp2_with fail
      go_ret
      exact ⟨_, rfl, HTT.out, BR.out⟩
end Go.Proofs.Ytdbonlpkmncggaa
