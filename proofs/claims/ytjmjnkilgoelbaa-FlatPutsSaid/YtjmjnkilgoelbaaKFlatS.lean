/-
  FlatS: Walk of flat's sum.
-/
import Derived.Test.YtjmjnkilgoelbaaJ6a
namespace Go.Proofs.Ytjmjnkilgoelbaa
open Go.RowKit

/-- What stands at the first label. -/
inductive SumJ0 (w : World) (P : Nat) (ax : Option Addr) (xn xc n : Nat) (TT : Nat → Int) : Act → World → Prop
  | mk (j d : Nat) (T : Int) (u7 u9 u10 u11 u12 u13 u14 u15 u16 u17 u18 u19 u20 u21 u22 u23 u24 u25 u26 u27 u28 u29 u30 u31 u32 u33 u34 u35 u36 u37 u38 u39 u40 u41 u42 u43 u44 u45 u46 u47 u48 u49 u50 u51 u52 u53 u54 u55 u56 u57 u58 u59 u60 u61 u62 u63 u64 u65 u66 u67 u68 u69 u70 u71 u72 u73 u74 u75 u76 u77 u78 u79 u80 u81 u82 u83 u84 u85 u86 u87 u88 u89 u90 u91 u92 u93 u94 u95 u96 u97 u98 u99 u100 u101 u102 u103 u104 : Value) (hj : j ≤ n) (hT : TT j = T) : SumJ0 w P ax xn xc n TT { tmps := (.pointer (some ⟨P, 0, none⟩) :: .slice ax xn xc :: undef :: undef :: .int .i64 0 :: .pointer (some ⟨P, 0, none⟩) :: .int .i64 T :: u7 :: .int .i64 (j : Nat) :: u9 :: u10 :: u11 :: u12 :: u13 :: u14 :: u15 :: u16 :: u17 :: u18 :: u19 :: u20 :: u21 :: u22 :: u23 :: u24 :: u25 :: u26 :: u27 :: u28 :: u29 :: u30 :: u31 :: u32 :: u33 :: u34 :: u35 :: u36 :: u37 :: u38 :: u39 :: u40 :: u41 :: u42 :: u43 :: u44 :: u45 :: u46 :: u47 :: u48 :: u49 :: u50 :: u51 :: u52 :: u53 :: u54 :: u55 :: u56 :: u57 :: u58 :: u59 :: u60 :: u61 :: u62 :: u63 :: u64 :: u65 :: u66 :: u67 :: u68 :: u69 :: u70 :: u71 :: u72 :: u73 :: u74 :: u75 :: u76 :: u77 :: u78 :: u79 :: u80 :: u81 :: u82 :: u83 :: u84 :: u85 :: u86 :: u87 :: u88 :: u89 :: u90 :: u91 :: u92 :: u93 :: u94 :: u95 :: u96 :: u97 :: u98 :: u99 :: u100 :: u101 :: u102 :: u103 :: u104 :: []).toArray, defers := [] } (w.drewN d)

/-- What stands at the second label. -/
inductive SumJ1 (w : World) (P : Nat) (ax : Option Addr) (xn xc : Nat) (l : List TreeP) (x : List Int) (TT : Nat → Int) (SS : Nat → Nat) : Act → World → Prop
  | mk (j p d : Nat) (t : TreeP) (T : Int) (u9 u10 u11 u12 u13 u14 u15 u16 u17 u18 u19 u20 u21 u22 u23 u24 u25 u26 u27 u28 u29 u30 u31 u32 u33 u34 u35 u36 u37 u38 u39 u40 u41 u42 u43 u44 u45 u46 u47 u48 u49 u50 u51 u52 u53 u54 u55 u56 u57 u58 u59 u60 u61 u62 u63 u64 u65 u66 u67 u68 u69 u70 u71 u72 u73 u74 u75 u76 u77 u78 u79 u80 u81 u82 u83 u84 u85 u86 u87 u88 u89 u90 u91 u92 u93 u94 u95 u96 u97 u98 u99 u100 u101 u102 u103 u104 : Value) (hT : TT j = T) (ht : l[j]? = some t) (hp : p < t.nodes.length) (hway : OnWay t x p) : SumJ1 w P ax xn xc l x TT SS { tmps := (.pointer (some ⟨P, 0, none⟩) :: .slice ax xn xc :: undef :: undef :: .int .i64 0 :: .pointer (some ⟨P, 0, none⟩) :: .int .i64 T :: .int .i64 ((SS j + p : Nat) : Int) :: .int .i64 (j : Nat) :: u9 :: u10 :: u11 :: u12 :: u13 :: u14 :: u15 :: u16 :: u17 :: u18 :: u19 :: u20 :: u21 :: u22 :: u23 :: u24 :: u25 :: u26 :: u27 :: u28 :: u29 :: u30 :: u31 :: u32 :: u33 :: u34 :: u35 :: u36 :: u37 :: u38 :: u39 :: u40 :: u41 :: u42 :: u43 :: u44 :: u45 :: u46 :: u47 :: u48 :: u49 :: u50 :: u51 :: u52 :: u53 :: u54 :: u55 :: u56 :: u57 :: u58 :: u59 :: u60 :: u61 :: u62 :: u63 :: u64 :: u65 :: u66 :: u67 :: u68 :: u69 :: u70 :: u71 :: u72 :: u73 :: u74 :: u75 :: u76 :: u77 :: u78 :: u79 :: u80 :: u81 :: u82 :: u83 :: u84 :: u85 :: u86 :: u87 :: u88 :: u89 :: u90 :: u91 :: u92 :: u93 :: u94 :: u95 :: u96 :: u97 :: u98 :: u99 :: u100 :: u101 :: u102 :: u103 :: u104 :: []).toArray, defers := [] } (w.drewN d)

theorem rows_some {w : World} {B P : Nat} {l : List TreeP} {vs : List Value} {nv : Value} (h : PackAt w B P l vs nv) {k : Nat} {v : Value} {r : List Int} (hv : vs[k]? = some v) (hr : (flatL l)[k]? = some r) (h0 : 1 ≤ r.length) :
    ∃ g c, v = .slice (some ⟨g, 0, none⟩) r.length c ∧ g < w.heap.size ∧ ∀ i y, r[i]? = some y → w.cell? ⟨g, i, none⟩ = some (.int .i64 y) := by
  have ho := h.fa.rows k v r hv hr
  obtain ⟨g, c, rfl, _, hg⟩ := own_some ho h0
  refine ⟨g, c, rfl, hg, fun i y hi => ?_⟩
  have hlt := (List.getElem?_eq_some_iff.1 hi).1
  exact (ho.cellAt i (by omega)).trans (by rw [intF, List.getElem?_map, hi]; rfl)

theorem sumI_app (a b : List Int) : sumI (a ++ b) = sumI a + sumI b := by
  induction a with
  | nil => simp [sumI]
  | cons x a ih => simp only [List.cons_append, sumI]; omega

theorem sum_bd {l : List TreeP} {x : List Int} (h : ∀ t ∈ l, treeB t = true) (hl : l.length ≤ 16) (k : Nat) : 0 ≤ sumI ((l.take k).map fun t => lenV t x) ∧ sumI ((l.take k).map fun t => lenV t x) ≤ 8899172237312 := by
  have key : ∀ (m : List TreeP), (∀ t ∈ m, treeB t = true) → 0 ≤ sumI (m.map fun t => lenV t x) ∧ sumI (m.map fun t => lenV t x) ≤ 556198264832 * (m.length : Int) := by
    intro m hm
    induction m with
    | nil => simp [sumI]
    | cons t m ih =>
      have h1 := ih fun u hu => hm u (by simp [hu])
      have h2 := lenV_bd (x := x) (hm t (by simp))
      simp only [List.map_cons, sumI, List.length_cons] at h1 ⊢
      omega
  have h1 := key (l.take k) fun t ht => h t (List.mem_of_mem_take ht)
  have h2 : (l.take k).length ≤ 16 := by rw [List.length_take]; omega
  omega

set_option maxRecDepth 100000 in
set_option maxHeartbeats 8000000 in
theorem fsum_any {B P : Nat} {l : List TreeP} {vs : List Value} {nv : Value} (v : Value) (x : List Int) (w : World) (h : PackAt w B P l vs nv) (hx : Ints .i64 w v x) (hvec : vecB x (dimL l) = true) (hl0 : l ≠ []) :
    Calls Try.prog 138 #[.pointer (some ⟨P, 0, none⟩), v] w fun e w' => e = .returned (.int .i64 (sumV l x)) ∧ ∃ n, w' = w.drewN n := by
  have HX := Lib.hid hx
  obtain ⟨ax, xc, rfl⟩ := hx.shape
  obtain ⟨xn, hxn⟩ : ∃ n, x.length = n := ⟨_, rfl⟩
  rw [hxn] at HX ⊢
  have HXN := Lib.hid hxn
  clear hx hxn
  obtain ⟨v0, v1, v2, v3, v4, v5, v6, rfl⟩ := h.seven
  have HP := Lib.hid h
  have hlt := h.fa.lt
  have hmany := h.many
  have hq := h.nodes
  have hcf := h.coefs
  have hdl := vecB_yes hvec
  obtain ⟨D, hD⟩ : ∃ n : Nat, dimL l = (n : Int) := ⟨(dimL l).toNat, by omega⟩
  have hok : ∀ t ∈ l, treeB t = true ∧ t.dim = (D : Int) := fun t ht => ⟨(h.ok t ht).1, (h.ok t ht).2.trans hD⟩
  have HOK := Lib.hid hok
  have hl1 : 1 ≤ l.length := List.length_pos_iff.2 hl0
  obtain ⟨t0, ht0⟩ := getElem?_ex (l := l) (k := 0) hl1
  have hq1 : 1 ≤ lenTs l := by
    have g1 := lenTs_take_succ ht0
    rw [Nat.zero_add, List.take_zero] at g1
    have g0 : lenTs [] = 0 := rfl
    have g2 := (treeB_true.1 (hok t0 (List.mem_of_getElem? ht0)).1).len
    have g3 : lenTs l = lenTs (l.take 1) + lenTs (l.drop 1) := by rw [← lenTs_append, List.take_append_drop]
    omega
  rw [hD, Int.toNat_natCast] at hcf
  rw [hD] at hdl
  have hD1 : 1 ≤ D ∧ D ≤ 8 := by omega
  have hxD : xn = D := by have := HXN.out; omega
  subst hxD
  have HVX := Lib.hid hdl.2.2.2
  have hcl : 1 ≤ (coefsL l).length := by rw [hcf.1]; exact Nat.mul_pos hq1 hD1.1
  obtain ⟨g0, k0, rfl, hg0, hc0⟩ := rows_some h (k := 0) rfl rfl (by rw [startsL_len]; exact hl1)
  obtain ⟨g1, k1, rfl, hg1, hc1⟩ := rows_some h (k := 1) rfl rfl hcl
  obtain ⟨g2, k2, rfl, hg2, hc2⟩ := rows_some h (k := 2) rfl rfl (by rw [atL_len]; exact hq1)
  obtain ⟨g3, k3, rfl, hg3, hc3⟩ := rows_some h (k := 3) rfl rfl (by rw [leftL_len]; exact hq1)
  obtain ⟨g4, k4, rfl, hg4, hc4⟩ := rows_some h (k := 4) rfl rfl (by rw [rightL_len]; exact hq1)
  obtain ⟨g5, k5, rfl, hg5, hc5⟩ := rows_some h (k := 5) rfl rfl (by rw [addsL_len]; exact hq1)
  have p0 : w.cell? ⟨P, 0, none⟩ = some (.int .i64 (xn : Int)) := by rw [← hD]; exact h.fa.c0
  have p1 := (h.fa.cs 0 _ rfl).1
  have p2 := (h.fa.cs 1 _ rfl).1
  have p3 := (h.fa.cs 2 _ rfl).1
  have p4 := (h.fa.cs 3 _ rfl).1
  have p5 := (h.fa.cs 4 _ rfl).1
  have p6 := (h.fa.cs 5 _ rfl).1
  have hk1 : (coefsL l).length ≤ k1 ∧ k1 ≤ 9223372036854775807 := by
    obtain ⟨_, _, e, h1, h2, _⟩ := h.row (j := 1) rfl rfl
    injection e with _ _ e
    subst e
    exact ⟨h1, h2⟩
  rw [startsL_len] at p1
  rw [atL_len] at p3
  rw [leftL_len] at p4
  rw [rightL_len] at p5
  rw [addsL_len] at p6
  simp only [Nat.zero_add, Nat.reduceAdd] at p1 p2 p3 p4 p5 p6
  have HC0 := Lib.hid (fun j (hj : j < l.length) => (hc0 j _ (startsL_get l 0 j hj)))
  simp only [Nat.zero_add] at HC0
  have HC1 := Lib.hid hc1
  have HC2 := Lib.hid hc2
  have HC3 := Lib.hid hc3
  have HC4 := Lib.hid hc4
  have HC5 := Lib.hid hc5
  have HB := Lib.hid (fun k => sum_bd (x := x) (fun t ht => (hok t ht).1) hmany k)
  obtain ⟨n, hn⟩ : ∃ n, l.length = n := ⟨_, rfl⟩
  obtain ⟨q, hqq⟩ : ∃ n, lenTs l = n := ⟨_, rfl⟩
  obtain ⟨cl, hcll⟩ : ∃ n, (coefsL l).length = n := ⟨_, rfl⟩
  rw [hn] at p1 HC0 hmany hl1
  rw [hqq] at p3 p4 p5 p6 hq hcf hq1
  rw [hcll] at p2 hcf hk1 hcl
  have HN := Lib.hid hn
  have HQ := Lib.hid hqq
  obtain ⟨TT, hTT⟩ : ∃ f : Nat → Int, f = fun k => sumI ((l.take k).map fun t => lenV t x) := ⟨_, rfl⟩
  obtain ⟨SS, hSS⟩ : ∃ f : Nat → Nat, f = fun k => lenTs (l.take k) := ⟨_, rfl⟩
  have HTT := Lib.hid hTT
  have HSS := Lib.hid hSS
  have HSE := Lib.hid (show ∀ j t, l[j]? = some t → SS j + t.nodes.length ≤ q from fun j t hj => by
    rw [hSS, ← HQ.out]
    have g1 := lenTs_take_succ hj
    have g3 : lenTs l = lenTs (l.take (j + 1)) + lenTs (l.drop (j + 1)) := by rw [← lenTs_append, List.take_append_drop]
    show lenTs (l.take j) + t.nodes.length ≤ lenTs l
    omega)
  have HTS := Lib.hid (show ∀ j t, l[j]? = some t → TT (j + 1) = TT j + lenV t x from fun j t hj => by
    rw [hTT]
    show sumI ((l.take (j + 1)).map _) = sumI ((l.take j).map _) + _
    rw [List.take_add_one, hj, List.map_append]
    show sumI (_ ++ [lenV t x]) = _
    rw [sumI_app]
    simp [sumI])
  have HTB := Lib.hid (show ∀ j, 0 ≤ TT j ∧ TT j ≤ 8899172237312 from fun j => by rw [hTT]; exact HB.out j)
  have HT0 := Lib.hid (show TT 0 = 0 from by rw [hTT]; rfl)
  have HTN := Lib.hid (show TT n = sumV l x from by rw [hTT, ← HN.out]; show sumI ((l.take l.length).map _) = _; rw [List.take_length]; rfl)
  have HC0' := Lib.hid (show ∀ j, j < n → w.cell? ⟨g0, j, none⟩ = some (.int .i64 (SS j : Nat)) from fun j hj => by rw [hSS]; exact HC0.out j hj)
  rw [← HTN.out]
  have HHD := Lib.hid hD
  clear h hc0 hc1 hc2 hc3 hc4 hc5 hok hl0 ht0 hdl hvec HC0 hTT hSS hqq hcll hn hD HP
  go_enter Try.func138, Try.ntmps138
  go_wp2_with fail
  refine wp_scope_two (SumJ0 w P ax xn xc n TT) (SumJ1 w P ax xn xc l x TT SS) (fun a' _ => (n - (intOf (a'.tmps.getD 8 undef)).toNat) * 5000 + 4999) (fun a' _ => (n - (intOf (a'.tmps.getD 8 undef)).toNat) * 5000 + (4000 - (intOf (a'.tmps.getD 7 undef)).toNat)) (by rfl) (by rfl) ?p1 ?p0 ?first
  case first =>
    intro H0
    go_wp2_with fail
    go_step3
    refine ‹∀ (a : Act) (w : World), Code.wp Try.prog _ _ a w → _› _ _ ?_
    exact H0 _ _ (.mk 0 0 0 _ _ _ _ _ _ _ _ _ _ _ _ _ _ _ _ _ _ _ _ _ _ _ _ _ _ _ _ _ _ _ _ _ _ _ _ _ _ _ _ _ _ _ _ _ _ _ _ _ _ _ _ _ _ _ _ _ _ _ _ _ _ _ _ _ _ _ _ _ _ _ _ _ _ _ _ _ _ _ _ _ _ _ _ _ _ _ _ _ _ _ _ _ _ _ _ _ (by omega) HT0.out)
  case p0 =>
    intro a' w' hJ H1
    cases hJ with | mk j d T u7 u9 u10 u11 u12 u13 u14 u15 u16 u17 u18 u19 u20 u21 u22 u23 u24 u25 u26 u27 u28 u29 u30 u31 u32 u33 u34 u35 u36 u37 u38 u39 u40 u41 u42 u43 u44 u45 u46 u47 u48 u49 u50 u51 u52 u53 u54 u55 u56 u57 u58 u59 u60 u61 u62 u63 u64 u65 u66 u67 u68 u69 u70 u71 u72 u73 u74 u75 u76 u77 u78 u79 u80 u81 u82 u83 u84 u85 u86 u87 u88 u89 u90 u91 u92 u93 u94 u95 u96 u97 u98 u99 u100 u101 u102 u103 u104 hj hTj => ?_
    have HTJJ := Lib.hid hTj
    by_cases hjn : j = n
    · subst hjn
      have e1 : ((j : Int) == (j : Int)) = true := by simp
      go_wp2_with fail
      simp only [Exit.jumps]
      go_ret
      exact ⟨by rw [HTJJ.out]; rfl, _, rfl⟩
    · have hjl : j < n := by omega
      have e1 : ((j : Int) == (n : Int)) = false := by simp; omega
      have c0 := HC0'.out j hjl
      have i1 : (0 : Int) ≤ (j : Int) := by omega
      have i2 : (j : Int) < (n : Int) := by omega
      obtain ⟨t, ht⟩ := getElem?_ex (l := l) (k := j) (by rw [HN.out]; exact hjl)
      have HTJ := Lib.hid ht
      have HTR := Lib.hid (HOK.out t (List.mem_of_getElem? ht)).1
      clear ht hjn
      go_wp2_with fail
      go_step3
      refine ‹∀ (a : Act) (w : World), Code.wp Try.prog _ _ a w → _› _ _ ?_
      refine H1 _ _ (.mk j 0 d t T _ _ _ _ _ _ _ _ _ _ _ _ _ _ _ _ _ _ _ _ _ _ _ _ _ _ _ _ _ _ _ _ _ _ _ _ _ _ _ _ _ _ _ _ _ _ _ _ _ _ _ _ _ _ _ _ _ _ _ _ _ _ _ _ _ _ _ _ _ _ _ _ _ _ _ _ _ _ _ _ _ _ _ _ _ _ _ _ _ _ _ _ _ _ _ _ HTJJ.out HTJ.out (by have := (treeB_true.1 HTR.out).len; omega) (onWay_root x HTR.out)) ?_
      simp [intOf]
      omega
  case p1 =>
    intro a' w' hJ
    cases hJ with | mk j p d t T u9 u10 u11 u12 u13 u14 u15 u16 u17 u18 u19 u20 u21 u22 u23 u24 u25 u26 u27 u28 u29 u30 u31 u32 u33 u34 u35 u36 u37 u38 u39 u40 u41 u42 u43 u44 u45 u46 u47 u48 u49 u50 u51 u52 u53 u54 u55 u56 u57 u58 u59 u60 u61 u62 u63 u64 u65 u66 u67 u68 u69 u70 u71 u72 u73 u74 u75 u76 u77 u78 u79 u80 u81 u82 u83 u84 u85 u86 u87 u88 u89 u90 u91 u92 u93 u94 u95 u96 u97 u98 u99 u100 u101 u102 u103 u104 hTj ht hp hway => ?_
    have HTJJ := Lib.hid hTj
    obtain ⟨nd, hnd⟩ := getElem?_ex (l := t.nodes) (k := p) hp
    have hT := HOK.out t (List.mem_of_getElem? ht)
    have hjn : j < n := by rw [← HN.out]; exact (List.getElem?_eq_some_iff.1 ht).1
    have hse := HSE.out j t ht
    have c3 := HC3.out (SS j + p) (leftN (SS j) nd) (by rw [HSS.out]; show (leftL 0 l)[lenTs (l.take j) + p]? = _; rw [left_get ht hp, leftT, List.getElem?_map, hnd]; rfl)
    obtain ⟨i, hi⟩ : ∃ i, SS j + p = i := ⟨_, rfl⟩
    have HI := Lib.hid hi
    rw [hi] at c3 ⊢
    have i1 : (0 : Int) ≤ (i : Int) := by omega
    have i2 : (i : Int) < (q : Int) := by omega
    have htb := HTB.out j
    have htb1 := HTB.out (j + 1)
    by_cases hlf : nd.left = 0
    · have e0 : leftN (SS j) nd = 0 := by unfold leftN; rw [if_pos hlf]
      rw [e0] at c3
      have c5 := HC5.out i (addN t p nd) (by rw [← HI.out, HSS.out]; show (addsL l)[lenTs (l.take j) + p]? = _; unfold addsL; rw [flat_get (fun t => by simp [addT]) ht hp, addT, List.getElem?_mapIdx, hnd]; rfl)
      have eT : TT (j + 1) = TT j + addN t p nd := by rw [HTS.out j t ht, hway.leaf hT.1 hnd hlf]
      have HET := Lib.hid eT
      obtain ⟨A, hA⟩ : ∃ A, addN t p nd = A := ⟨_, rfl⟩
      rw [hA] at c5 HET eT
      have hw1 : IntKind.i64.wrap (TT j + A) = TT j + A := by rw [IntKind.wrap_i64]; omega
      rw [hTj] at hw1 HET
      clear eT e0 hA hway ht hi htb htb1 hTj
      go_wp2_with fail
      go_step3
      refine .inl ⟨rfl, .mk (j + 1) d _ _ _ _ _ _ _ _ _ _ _ _ _ _ _ _ _ _ _ _ _ _ _ _ _ _ _ _ _ _ _ _ _ _ _ _ _ _ _ _ _ _ _ _ _ _ _ _ _ _ _ _ _ _ _ _ _ _ _ _ _ _ _ _ _ _ _ _ _ _ _ _ _ _ _ _ _ _ _ _ _ _ _ _ _ _ _ _ _ _ _ _ _ _ _ _ _ _ (by omega) HET.out, ?_⟩
      simp [intOf]
      omega
    · have hlfB : leafB nd = false := by
        cases hb : leafB nd with
        | false => rfl
        | true => exact absurd (leafB_is hb).1 hlf
      obtain ⟨m, k1', k2', k3', k4', k5', k6', k7'⟩ := hway.next hnd hlfB
      have e0 : leftN (SS j) nd = ((i + 1 : Nat) : Int) := by unfold leftN; rw [if_neg hlf, k1', ← HI.out]; omega
      have e1 : rightN (SS j) nd = ((SS j + m : Nat) : Int) := by unfold rightN; rw [if_neg hlf, k2']; omega
      have c4 := HC4.out i (rightN (SS j) nd) (by rw [← HI.out, HSS.out]; show (rightL 0 l)[lenTs (l.take j) + p]? = _; rw [right_get ht hp, rightT, List.getElem?_map, hnd]; rfl)
      have c2 := HC2.out i nd.at_ (by rw [← HI.out, HSS.out]; show (atL l)[lenTs (l.take j) + p]? = _; unfold atL; rw [flat_get (fun t => by simp [atT]) ht hp, atT, List.getElem?_map, hnd]; rfl)
      rw [e0] at c3
      rw [e1] at c4
      have hpb : partsB nd.coef t.dim = true := by unfold cutB at k5'; simp only [Bool.and_eq_true] at k5'; exact k5'.2
      have hpy := partsB_yes hpb
      rw [hT.2] at hpy
      have HCL := Lib.hid (show nd.coef.length = xn by have := hpy.2.2.1; omega)
      have HCA := Lib.hid hpy.2.2.2
      have HCE := Lib.hid (show ∀ k c, nd.coef[k]? = some c → w.cell? ⟨g1, i * xn + k, none⟩ = some (.int .i64 c) from fun k c hk => by
        have hlt := (List.getElem?_eq_some_iff.1 hk).1
        refine HC1.out _ _ ?_
        rw [← HI.out, HSS.out]
        show (coefsL l)[(lenTs (l.take j) + p) * xn + k]? = _
        rw [coef_get HOK.out ht hnd (by rw [← HCL.out]; exact hlt)]
        unfold coefN
        rw [if_neg hlf]
        exact hk)
      have hab : i * xn + xn ≤ cl := by
        rw [hcf.1]
        have : (i + 1) * xn ≤ q * xn := Nat.mul_le_mul_right _ (by omega)
        rw [Nat.add_mul] at this
        omega
      obtain ⟨aa, haa⟩ : ∃ n, i * xn = n := ⟨_, rfl⟩
      rw [haa] at hab HCE
      have hm1 : (i : Int) * (xn : Int) = (aa : Int) := by rw [← haa]; simp
      have hm2 : ((i : Int) + 1) * (xn : Int) = (aa : Int) + (xn : Int) := by rw [Int.add_mul, hm1]; omega
      have hw1 : IntKind.i64.wrap ((i : Int) * (xn : Int)) = (aa : Int) := by rw [IntKind.wrap_i64, hm1]; omega
      have hw3 : IntKind.i64.wrap (((i : Int) + 1) * (xn : Int)) = (aa : Int) + (xn : Int) := by rw [IntKind.wrap_i64, hm2]; omega
      have HL1 := Lib.hid k6'
      have HL2 := Lib.hid k7'
      have HLI := Lib.hid (show SS j + p = i ∧ p + 1 < m ∧ m < t.nodes.length ∧ l[j]? = some t from ⟨HI.out, k3', k4', ht⟩)
      have hlp : i + 1 < q ∧ SS j + m < q := by omega
      obtain ⟨sm, hsm⟩ : ∃ n, SS j + m = n := ⟨_, rfl⟩
      rw [hsm] at c4 hlp
      have HSM := Lib.hid hsm
      have jj : (((i + 1 : Nat) : Int) == 0) = false := by simp; omega
      obtain ⟨i', hi'⟩ : ∃ n, i + 1 = n := ⟨_, rfl⟩
      rw [hi'] at c3 jj hlp
      have HI' := Lib.hid hi'
      have s1 : (0 : Int) ≤ (aa : Int) := by omega
      have s2 : (aa : Int) ≤ (aa : Int) + (xn : Int) := by omega
      have s3 : (aa : Int) + (xn : Int) ≤ (k1 : Int) := by omega
      clear e0 e1 hlfB hway hpb hpy haa hm1 hm2 k1' k2' k3' k4' k5' k6' k7' hsm hi' hi ht hlf hT
      go_upto_region 10 with fail
      go_region
      go_wp2_with fail
      go_loopw [9, 10, 11, 68] (fun sm' _ _ kk wr => ∃ k : Nat, kk = .int .i64 k ∧ k ≤ xn ∧ sm' = .int .i64 (dotI (nd.coef.take k) (x.take k)) ∧ w.drewN (d + 1) = wr) (fun _ _ _ kk _ => xn - (intOf kk).toNat)
      case atStart => exact ⟨0, rfl, by omega, by simp [dotI], rfl⟩
      case round =>
        obtain ⟨k, rfl, hk, rfl, rfl⟩ := hrel
        by_cases hlt : k < xn
        · obtain ⟨y, hy⟩ := getElem?_ex (l := nd.coef) (k := k) (by rw [HCL.out]; exact hlt)
          obtain ⟨z, hz⟩ := getElem?_ex (l := x) (k := k) (by rw [HXN.out]; exact hlt)
          have hc1 := HCE.out k y hy
          obtain ⟨_, _, ex, _, _, _, hx4⟩ := HX.out
          obtain ⟨b2, o2, rfl, hb2, hc2⟩ := hx4 k z hz
          injection ex with ex _ _
          subst ex
          have hs := dot_step hy hz
          have hb := dot_bd (all_take HCA.out k) (all_take HVX.out k) (by simp; omega)
          have hmb := mul_bd (all_at HCA.out hy) (all_at HVX.out hz)
          have hlk : (((nd.coef.take k).length : Nat) : Int) ≤ 8 := by simp; omega
          obtain ⟨A, hA⟩ : ∃ A, dotI (nd.coef.take k) (x.take k) = A := ⟨_, rfl⟩
          have hb1' : -68719476736 ≤ A := by omega
          have hb2' : A ≤ 68719476736 := by omega
          rw [hA] at hs ⊢
          obtain ⟨pp, hp'⟩ : ∃ p, y * z = p := ⟨_, rfl⟩
          have hm1 := hmb.1
          have hm2 := hmb.2
          rw [hp'] at hs hm1 hm2
          have HS := Lib.hid hs
          have i1' : (0 : Int) ≤ (k : Int) := by omega
          have i2' : (k : Int) < (xn : Int) := by omega
          clear hy hz hs hb hmb hA hlk hx4
          go_wp2_with fail
          go_roundw
          case rel => exact ⟨k + 1, by go_num, by omega, by rw [HS.out], trivial⟩
          case measure => simp [intOf] <;> omega
        · obtain rfl : k = xn := by omega
          have hT1 := List.take_of_length_le (l := nd.coef) (i := k) (by rw [HCL.out]; omega)
          have hT2 := List.take_of_length_le (l := x) (i := k) (by rw [HXN.out]; omega)
          rw [hT1, hT2]
          clear hT1 hT2
          by_cases hd : dotI nd.coef x < nd.at_
          · have HW := Lib.hid (HL1.out (by unfold leftB; simp [hd]))
            obtain ⟨dt, hdt⟩ : ∃ D, dotI nd.coef x = D := ⟨_, rfl⟩
            rw [hdt] at hd ⊢
            clear hdt HL1 HL2
            go_wp2_with fail
            go_step3
            obtain ⟨q1, q2, q3, q4⟩ := HLI.out
            have e := HI'.out
            rw [show i' = SS j + (p + 1) by omega]
            refine .inr ⟨rfl, .mk j (p + 1) (d + 1) t T _ _ _ _ _ _ _ _ _ _ _ _ _ _ _ _ _ _ _ _ _ _ _ _ _ _ _ _ _ _ _ _ _ _ _ _ _ _ _ _ _ _ _ _ _ _ _ _ _ _ _ _ _ _ _ _ _ _ _ _ _ _ _ _ _ _ _ _ _ _ _ _ _ _ _ _ _ _ _ _ _ _ _ _ _ _ _ _ _ _ _ _ _ _ _ _ HTJJ.out q4 (by omega) HW.out, ?_⟩
            simp [intOf]
            omega
          · have HW := Lib.hid (HL2.out (by unfold leftB; simp [hd]))
            obtain ⟨dt, hdt⟩ : ∃ D, dotI nd.coef x = D := ⟨_, rfl⟩
            rw [hdt] at hd ⊢
            clear hdt HL1 HL2
            go_wp2_with fail
            go_step3
            obtain ⟨q1, q2, q3, q4⟩ := HLI.out
            have e := HSM.out
            rw [← e]
            refine .inr ⟨rfl, .mk j m (d + 1) t T _ _ _ _ _ _ _ _ _ _ _ _ _ _ _ _ _ _ _ _ _ _ _ _ _ _ _ _ _ _ _ _ _ _ _ _ _ _ _ _ _ _ _ _ _ _ _ _ _ _ _ _ _ _ _ _ _ _ _ _ _ _ _ _ _ _ _ _ _ _ _ _ _ _ _ _ _ _ _ _ _ _ _ _ _ _ _ _ _ _ _ _ _ _ _ _ HTJJ.out q4 (by omega) HW.out, ?_⟩
            simp [intOf]
            omega
end Go.Proofs.Ytjmjnkilgoelbaa
