/-
  FlatT: Walks of flat's Sum and Cells.
-/
import Derived.Test.YtjmjnkilgoelbaaKFlatS
namespace Go.Proofs.Ytjmjnkilgoelbaa
open Go.RowKit

noncomputable def fsE (l : List TreeP) (x : List Int) : Int := if l = [] then 4 else if vecB x (dimL l) = false then 80 else 0
noncomputable def fsV (l : List TreeP) (x : List Int) : Int := if fsE l x = 0 then sumV l x else 0

set_option maxRecDepth 100000 in
theorem fSum_nil (v : Value) (x : List Int) (w : World) (hx : Ints .i64 w v x) : Calls Try.prog 69 #[.pointer none, v] w fun e w' => e = .returned (.tuple #[.int .i64 0, .int .i64 7]) ∧ w = w' := by
  obtain ⟨ax, xc, rfl⟩ := hx.shape
  go_enter Try.func69, Try.ntmps69
  go_wp2_with fail
  exact bodyPost_ret (v := .tuple #[.int .i64 0, .int .i64 7]) (by simp [results, Try.results69, go_sem]) rfl ⟨rfl, rfl⟩

set_option maxRecDepth 100000 in
theorem fSum_any {B P : Nat} {l : List TreeP} {vs : List Value} {nv : Value} (v : Value) (x : List Int) (w : World) (h : PackAt w B P l vs nv) (hx : Ints .i64 w v x) :
    Calls Try.prog 69 #[.pointer (some ⟨P, 0, none⟩), v] w fun e w' => e = .returned (.tuple #[.int .i64 (fsV l x), .int .i64 (fsE l x)]) ∧ ∃ n, w' = w.drewN n := by
  have HX := Lib.hid hx
  obtain ⟨ax, xc, rfl⟩ := hx.shape
  have HC := Lib.hid (flen_any h)
  have hlt := h.fa.lt
  have c0 := h.fa.c0
  by_cases h0 : l = []
  · have e0 : fsE l x = 4 := by unfold fsE; rw [if_pos h0]
    have e1 : fsV l x = 0 := by unfold fsV; rw [e0]; rfl
    rw [e0, e1]
    rw [h0] at HC
    simp only [List.length_nil] at HC
    clear h hx e0 e1 h0
    go_enter Try.func69, Try.ntmps69
    go_wp2_with fail
    (with_reducible refine HC.out.mono ?_)
    rintro e w1 ⟨rfl, rfl⟩
    go_wp2_with fail
    exact bodyPost_ret (v := .tuple #[.int .i64 0, .int .i64 4]) (by simp [results, Try.results69, go_sem]) rfl ⟨rfl, 0, rfl⟩
  · have hp : 0 < l.length := List.length_pos_iff.2 h0
    have HV := Lib.hid (vis_any _ x (dimL l) w HX.out)
    obtain ⟨n, hn⟩ : ∃ n, l.length = n := ⟨_, rfl⟩
    rw [hn] at HC hp
    have j0 : ((n : Int) == 0) = false := by simp; omega
    cases hvb : vecB x (dimL l) with
    | false =>
      have e0 : fsE l x = 80 := by unfold fsE; rw [if_neg h0, if_pos hvb]
      have e1 : fsV l x = 0 := by unfold fsV; rw [e0]; rfl
      rw [e0, e1]
      rw [hvb] at HV
      obtain ⟨D, hD⟩ : ∃ D, dimL l = D := ⟨_, rfl⟩
      rw [hD] at HV c0
      clear h hx e0 e1 h0 hn hvb hD
      go_enter Try.func69, Try.ntmps69
      go_wp2_with fail
      (with_reducible refine HC.out.mono ?_)
      rintro e w1 ⟨rfl, rfl⟩
      go_wp2_with fail
      (with_reducible refine HV.out.mono ?_)
      rintro e w1 ⟨rfl, rfl⟩
      go_wp2_with fail
      exact bodyPost_ret (v := .tuple #[.int .i64 0, .int .i64 80]) (by simp [results, Try.results69, go_sem]) rfl ⟨rfl, 0, rfl⟩
    | true =>
      have e0 : fsE l x = 0 := by unfold fsE; rw [if_neg h0, if_neg (by simp [hvb])]
      have e1 : fsV l x = sumV l x := by unfold fsV; rw [if_pos e0]
      rw [e0, e1]
      have HS := Lib.hid (fsum_any _ x w h HX.out hvb h0)
      rw [hvb] at HV
      obtain ⟨D, hD⟩ : ∃ D, dimL l = D := ⟨_, rfl⟩
      obtain ⟨SV, hSV⟩ : ∃ D, sumV l x = D := ⟨_, rfl⟩
      rw [hD] at HV c0
      rw [hSV] at HS ⊢
      clear h hx e0 e1 h0 hn hvb hD hSV
      go_enter Try.func69, Try.ntmps69
      go_wp2_with fail
      (with_reducible refine HC.out.mono ?_)
      rintro e w1 ⟨rfl, rfl⟩
      go_wp2_with fail
      (with_reducible refine HV.out.mono ?_)
      rintro e w1 ⟨rfl, rfl⟩
      go_wp2_with fail
      (with_reducible refine HS.out.mono ?_)
      rintro e w1 ⟨rfl, d, rfl⟩
      go_wp2_with fail
      exact bodyPost_ret (v := .tuple #[.int .i64 SV, .int .i64 0]) (by simp [results, Try.results69, go_sem]) rfl ⟨rfl, d, rfl⟩

theorem ints_kept {w w' : World} {v : Value} {l : List Int} (h : Ints .i64 w v l) (hk : ∀ g, (∃ o n c, v = .slice (some ⟨g, o, none⟩) n c) → w'.heap[g]? = w.heap[g]?) (hz : w.heap.size ≤ w'.heap.size) : Ints .i64 w' v l := by
  obtain ⟨a, c, rfl, h1, h2, h3, h4⟩ := h
  refine ⟨a, c, rfl, h1, h2, h3, fun i x hi => ?_⟩
  obtain ⟨b, o, rfl, hb, hc⟩ := h4 i x hi
  exact ⟨b, o, rfl, Nat.lt_of_lt_of_le hb hz, (World.cell?_of_block (a := ⟨b, _, none⟩) (hk b ⟨o, _, _, rfl⟩)).trans hc⟩

theorem clone_row {w : World} {v : Value} {l : List Int} (h : Ints .i64 w v l) (hl : l.length ≤ 1000000) (ha : v = .slice none 0 0 ∨ ∃ b o n c, v = .slice (some ⟨b, o, none⟩) n c) :
    Calls Try.prog 133 #[v] w fun e w' => ∃ a n c, e = .returned (.slice a n c) ∧ Ints .i64 w' (.slice a n c) l ∧ (∀ g, (∃ o m k, Value.slice a n c = .slice (some ⟨g, o, none⟩) m k) → w.heap.size ≤ g) ∧ Below w.heap.size w w' := by
  rcases ha with rfl | ⟨b, o0, n, c, rfl⟩
  · exact (Try.slices_Clone_nil 0 0 w).mono fun e w' ⟨h1, h2⟩ => ⟨_, _, _, h1, by rw [h2]; exact h, (fun g ⟨o, m, k, e⟩ => by cases e), by rw [h2]; exact Below.refl _ _⟩
  · obtain ⟨a, c', e, h1, h2, h3, h4⟩ := h
    injection e with e1 e2 e3
    subst e1 e2 e3
    obtain ⟨i, hi, hz, hsize, hby, hzs, hsz, hbp⟩ := eiInt
    have hcl := Try.slices_Clone i _ 1 8 hi hz hsize hby hzs (by decide) (fun w => Try.sizeOf3 w) b o0 l.length c (l.map (.int .i64)) w (by simp) (by unfold maxLen; omega) (by omega) (fun j u hj => by
      rw [List.getElem?_map] at hj
      cases hy : l[j]? with
      | none => rw [hy] at hj; cases hj
      | some y =>
        rw [hy] at hj
        obtain ⟨b', o', e', _, hc⟩ := h4 j y hy
        simp at e' hj
        obtain ⟨rfl, rfl⟩ := e'
        rw [← hj]; exact hc) (fun u hu => by simp at hu; obtain ⟨y, _, rfl⟩ := hu; rfl)
    refine hcl.mono fun e w' ⟨v', h1, h2, _, h4⟩ => ?_
    obtain ⟨a', n', c', rfl⟩ := own_shape h2
    refine ⟨a', n', c', h1, (Ints.own h2 (by omega)).2, fun g ⟨o, m, k, e⟩ => ?_, h4⟩
    rcases h2.2 with ⟨e2, _⟩ | ⟨g2, cap, cur, e2, hb2, _⟩
    · rw [e] at e2; cases e2
    · rw [e] at e2
      injection e2 with e2
      injection e2 with e2
      injection e2 with e2
      omega

theorem row_new {W : World} {b : Nat} {T : TypeId} {cs : Array Value} (hb : b = W.heap.size) : RowAt (W.alloc (.cells cs T)) b T cs := by
  subst hb
  exact heap_alloc_new W _

/-- What stands between the rounds of Cells: the rows of the copy. -/
structure CellsSt (w U : World) (T Q : Nat) (d : Int) (vs us : List Value) (ls : List (List Int)) (k : Nat) : Prop where
  bel : Below w.heap.size w U
  tT : w.heap.size < T ∧ T < U.heap.size
  qQ : w.heap.size ≤ Q ∧ Q < U.heap.size ∧ Q ≠ T
  rR : ∃ cs, RowAt U w.heap.size 101 cs ∧ cs.size = 8
  c0 : U.cell? ⟨T, 0, none⟩ = some (.int .i64 d)
  len : us.length = 7
  cs : ∀ (j : Nat) (u : Value), us[j]? = some u → U.cell? ⟨T, j + 1, none⟩ = some u ∧ U.frozen? ⟨T, j + 1, none⟩ = false
  qs : ∀ (j : Nat), j < 7 → U.cell? ⟨Q, j, none⟩ = some (.pointer (some ⟨T, j + 1, none⟩))
  rs : ∀ (j : Nat) (u : Value) (r : List Int), us[j]? = some u → ls[j]? = some r → Ints .i64 U u r ∧ (∀ g, (∃ o n c, u = .slice (some ⟨g, o, none⟩) n c) → g ≠ T) ∧ (∀ g, (∃ o n c, u = .slice (some ⟨g, o, none⟩) n c) → g ≠ w.heap.size)
  old : ∀ (j : Nat), k ≤ j → us[j]? = vs[j]?
  ll : ls.length = 7

theorem CellsSt.shape {w U : World} {T Q : Nat} {d : Int} {vs us : List Value} {ls : List (List Int)} {k : Nat} (S : CellsSt w U T Q d vs us ls k) {j : Nat} {u : Value} (h : us[j]? = some u) : ∃ a n c, u = .slice a n c := by
  obtain ⟨r, hr⟩ := getElem?_ex (l := ls) (k := j) (by rw [S.ll, ← S.len]; exact (List.getElem?_eq_some_iff.1 h).1)
  obtain ⟨a, c, rfl⟩ := (S.rs j u r h hr).1.shape
  exact ⟨_, _, _, rfl⟩

theorem CellsSt.next {w U U1 : World} {T Q : Nat} {d : Int} {vs us : List Value} {ls : List (List Int)} {k : Nat} (S : CellsSt w U T Q d vs us ls k) (hk : k < 7) {u' : Value} {r : List Int} (hr : ls[k]? = some r) (hb : Below U.heap.size U U1) (hi : Ints .i64 U1 u' r) (hf : ∀ g, (∃ o n c, u' = .slice (some ⟨g, o, none⟩) n c) → U.heap.size ≤ g) :
    CellsSt w (U1.setCell ⟨T, k + 1, none⟩ u') T Q d vs (us.set k u') ls (k + 1) := by
  have hT := S.tT.2
  have hQ := S.qQ.2.1
  have hz := hb.size
  have keep : ∀ b, b < U.heap.size → b ≠ T → (U1.setCell ⟨T, k + 1, none⟩ u').heap[b]? = U.heap[b]? := fun b hlt hne => (Below.heap_setCell _ _ _ _ hne).trans (hb.block b hlt)
  have hwR : w.heap.size < U.heap.size := Nat.lt_trans S.tT.1 S.tT.2
  refine ⟨?_, ⟨S.tT.1, by simp; omega⟩, ⟨S.qQ.1, by simp; omega, S.qQ.2.2⟩, ?_, ?_, by simp [S.len], fun j u hu => ?_, fun j hj => ?_, fun j u s hu hs => ?_, fun j hj => ?_, S.ll⟩
  · have h1 : Below w.heap.size w U1 := S.bel.trans (hb.mono S.bel.size)
    exact h1.setCell (Nat.le_of_lt S.tT.1) _
  · obtain ⟨cs, h1, h2⟩ := S.rR
    exact ⟨cs, (keep _ hwR (by have := S.tT.1; omega)).trans h1, h2⟩
  · rw [World.cell?_setCell_other _ _ _ _ (by simp)]
    exact (hb.cell (p := ⟨T, 0, none⟩) hT).trans S.c0
  · rw [World.frozen?_setCell]
    by_cases hj : j = k
    · subst hj
      rw [List.getElem?_set_self (by rw [S.len]; exact hk)] at hu
      injection hu with hu
      subst hu
      obtain ⟨v, hv⟩ := getElem?_ex (l := us) (k := j) (by rw [S.len]; exact hk)
      exact ⟨World.cell?_setCell_same _ _ _ ((hb.cell (p := ⟨T, j + 1, none⟩) hT).trans (S.cs j v hv).1), (hb.frozen (p := ⟨T, j + 1, none⟩) hT).trans (S.cs j v hv).2⟩
    · rw [List.getElem?_set_ne (Ne.symm hj)] at hu
      rw [World.cell?_setCell_other _ _ _ _ (by first | (simp; done) | (simp; omega))]
      exact ⟨(hb.cell (p := ⟨T, j + 1, none⟩) hT).trans (S.cs j u hu).1, (hb.frozen (p := ⟨T, j + 1, none⟩) hT).trans (S.cs j u hu).2⟩
  · exact (World.cell?_of_block (a := ⟨Q, j, none⟩) (keep Q hQ S.qQ.2.2)).trans (S.qs j hj)
  · by_cases hj : j = k
    · subst hj
      rw [List.getElem?_set_self (by rw [S.len]; exact hk)] at hu
      injection hu with hu
      subst hu
      rw [hr] at hs
      injection hs with hs
      subst hs
      have g1 : ∀ g, (∃ o n c, u' = .slice (some ⟨g, o, none⟩) n c) → g ≠ T := fun g hg => by have := hf g hg; omega
      exact ⟨ints_kept hi (fun g hg => Below.heap_setCell _ _ _ _ (g1 g hg)) (by simp), g1, fun g hg => by have := hf g hg; omega⟩
    · rw [List.getElem?_set_ne (Ne.symm hj)] at hu
      obtain ⟨g1, g2, g3⟩ := S.rs j u s hu hs
      exact ⟨ints_kept (g1.below hb) (fun g hg => Below.heap_setCell _ _ _ _ (g2 g hg)) (by simp), g2, g3⟩
  · rw [List.getElem?_set_ne (by omega)]
    exact S.old j (by omega)

set_option maxRecDepth 100000 in
set_option maxHeartbeats 4000000 in
theorem cells_any {B P : Nat} {l : List TreeP} {vs : List Value} {nv : Value} (w : World) (h : PackAt w B P l vs nv) :
    Calls Try.prog 64 #[.pointer (some ⟨P, 0, none⟩)] w fun e w' => ∃ u1 u2 u3 u4 u5 u6 u7, e = .returned (.agg #[.int .i64 (dimL l), u1, u2, u3, u4, u5, u6, u7]) ∧
      (∀ (j : Nat) (v : Value) (r : List Int), [u1, u2, u3, u4, u5, u6, u7][j]? = some v → (flatL l)[j]? = some r → Ints .i64 w' v r) ∧ Below w.heap.size w w' := by
  obtain ⟨v0, v1, v2, v3, v4, v5, v6, rfl⟩ := h.seven
  have HP := Lib.hid h
  have hlt := h.fa.lt
  obtain ⟨a0, n0, c0, rfl⟩ := own_shape (HP.out.fa.rows 0 v0 _ rfl rfl)
  have p1 := (HP.out.fa.cs 0 _ rfl).1
  obtain ⟨a1, n1, c1, rfl⟩ := own_shape (HP.out.fa.rows 1 v1 _ rfl rfl)
  have p2 := (HP.out.fa.cs 1 _ rfl).1
  obtain ⟨a2, n2, c2, rfl⟩ := own_shape (HP.out.fa.rows 2 v2 _ rfl rfl)
  have p3 := (HP.out.fa.cs 2 _ rfl).1
  obtain ⟨a3, n3, c3, rfl⟩ := own_shape (HP.out.fa.rows 3 v3 _ rfl rfl)
  have p4 := (HP.out.fa.cs 3 _ rfl).1
  obtain ⟨a4, n4, c4, rfl⟩ := own_shape (HP.out.fa.rows 4 v4 _ rfl rfl)
  have p5 := (HP.out.fa.cs 4 _ rfl).1
  obtain ⟨a5, n5, c5, rfl⟩ := own_shape (HP.out.fa.rows 5 v5 _ rfl rfl)
  have p6 := (HP.out.fa.cs 5 _ rfl).1
  obtain ⟨a6, n6, c6, rfl⟩ := own_shape (HP.out.fa.rows 6 v6 _ rfl rfl)
  have p7 := (HP.out.fa.cs 6 _ rfl).1
  have p0 := HP.out.fa.c0
  simp only [Nat.zero_add, Nat.reduceAdd] at p1 p2 p3 p4 p5 p6 p7
  have HN := Lib.hid (show ∀ (j : Nat) (v : Value) (r : List Int), [.slice a0 n0 c0, .slice a1 n1 c1, .slice a2 n2 c2, .slice a3 n3 c3, .slice a4 n4 c4, .slice a5 n5 c5, .slice a6 n6 c6][j]? = some v → (flatL l)[j]? = some r → (v = .slice none 0 0 ∨ ∃ b o n c, v = .slice (some ⟨b, o, none⟩) n c) ∧ (∀ g, (∃ o n c, v = .slice (some ⟨g, o, none⟩) n c) → g < w.heap.size) ∧ r.length ≤ 1000000 from fun j v r hv hr => by
    have ho := HP.out.fa.rows j v r hv hr
    have hlen := flatL_len (by have := HP.out.coefs.2; omega) (by have := HP.out.nodes; omega) (by have := HP.out.many; omega) hr
    refine ⟨?_, fun g ⟨o, n, c, e⟩ => ?_, by omega⟩
    · rcases ho.2 with ⟨e, _⟩ | ⟨g, cap, cur, e, _⟩
      · exact .inl e
      · exact .inr ⟨g, 0, _, cap, e⟩
    · subst e
      exact (ho.lt g rfl).2)
  clear h
  go_enter Try.func64, Try.ntmps64
  go_wp2_with fail
  obtain ⟨U0, hU0⟩ : ∃ U, ((w.alloc (.cells #[.int .i64 0, .slice none 0 0, .slice none 0 0, .slice none 0 0, .slice none 0 0, .slice none 0 0, .slice none 0 0, .slice none 0 0] 101)).alloc (.cells #[.int .i64 (dimL l), .slice a0 n0 c0, .slice a1 n1 c1, .slice a2 n2 c2, .slice a3 n3 c3, .slice a4 n4 c4, .slice a5 n5 c5, .slice a6 n6 c6] 101)).alloc (.cells #[.pointer (some ⟨w.heap.size + 1, 1, none⟩), .pointer (some ⟨w.heap.size + 1, 2, none⟩), .pointer (some ⟨w.heap.size + 1, 3, none⟩), .pointer (some ⟨w.heap.size + 1, 4, none⟩), .pointer (some ⟨w.heap.size + 1, 5, none⟩), .pointer (some ⟨w.heap.size + 1, 6, none⟩), .pointer (some ⟨w.heap.size + 1, 7, none⟩)] 193) = U := ⟨_, rfl⟩
  rw [hU0]
  have S0 := Lib.hid (show CellsSt w U0 (w.heap.size + 1) (w.heap.size + 1 + 1) (dimL l) [.slice a0 n0 c0, .slice a1 n1 c1, .slice a2 n2 c2, .slice a3 n3 c3, .slice a4 n4 c4, .slice a5 n5 c5, .slice a6 n6 c6] [.slice a0 n0 c0, .slice a1 n1 c1, .slice a2 n2 c2, .slice a3 n3 c3, .slice a4 n4 c4, .slice a5 n5 c5, .slice a6 n6 c6] (flatL l) 0 from by
    have hT : RowAt U0 (w.heap.size + 1) 101 #[.int .i64 (dimL l), .slice a0 n0 c0, .slice a1 n1 c1, .slice a2 n2 c2, .slice a3 n3 c3, .slice a4 n4 c4, .slice a5 n5 c5, .slice a6 n6 c6] := by
      rw [← hU0]
      exact (show Below (w.heap.size + 1 + 1) _ _ from by (repeat (first | with_reducible exact Below.refl _ _ | with_reducible refine Bs ?_ | with_reducible refine Ba ?_ | with_reducible refine Bd ?_ | with_reducible refine Bn ?_))).block _ (by omega) |>.trans (row_new (W := w.alloc _) (by simp))
    have hB : Below w.heap.size w U0 := by rw [← hU0]; (repeat (first | with_reducible exact Below.refl _ _ | with_reducible refine Bs ?_ | with_reducible refine Ba ?_ | with_reducible refine Bd ?_ | with_reducible refine Bn ?_))
    have hR : RowAt U0 w.heap.size 101 #[.int .i64 0, .slice none 0 0, .slice none 0 0, .slice none 0 0, .slice none 0 0, .slice none 0 0, .slice none 0 0, .slice none 0 0] := by
      rw [← hU0]
      exact (show Below (w.heap.size + 1) _ _ from by (repeat (first | with_reducible exact Below.refl _ _ | with_reducible refine Bs ?_ | with_reducible refine Ba ?_ | with_reducible refine Bd ?_ | with_reducible refine Bn ?_))).block _ (by omega) |>.trans (heap_alloc_new w _)
    have hQ : RowAt U0 (w.heap.size + 1 + 1) 193 #[.pointer (some ⟨w.heap.size + 1, 1, none⟩), .pointer (some ⟨w.heap.size + 1, 2, none⟩), .pointer (some ⟨w.heap.size + 1, 3, none⟩), .pointer (some ⟨w.heap.size + 1, 4, none⟩), .pointer (some ⟨w.heap.size + 1, 5, none⟩), .pointer (some ⟨w.heap.size + 1, 6, none⟩), .pointer (some ⟨w.heap.size + 1, 7, none⟩)] := by
      rw [← hU0]
      exact row_new (by simp)
    refine ⟨hB, ⟨by omega, hT.lt⟩, ⟨by omega, hQ.lt, by omega⟩, ⟨_, hR, rfl⟩, (hT.cell 0).trans rfl, rfl, fun j u hu => ⟨?_, hT.frozen _⟩, fun j hj => ?_, fun j u r hu hr => ?_, fun j _ => rfl, rfl⟩
    · rcases j with _ | _ | _ | _ | _ | _ | _ | j
      all_goals first
        | (simp only [List.getElem?_cons_succ, List.getElem?_cons_zero, Option.some.injEq] at hu; subst hu; exact (hT.cell _).trans rfl)
        | (simp at hu; done)
    · rcases j with _ | _ | _ | _ | _ | _ | _ | j
      all_goals first
        | exact (hQ.cell _).trans rfl
        | omega
    · have h1 := HP.out.row hu hr
      have h2 := (HN.out j u r hu hr).2.1
      exact ⟨h1.below hB, fun g hg => by have := h2 g hg; omega, fun g hg => by have := h2 g hg; omega⟩)
  clear hU0
  go_loopw [5, 22] (fun _ i wr => ∃ (k : Nat) (us : List Value), i = .int .i64 k ∧ k ≤ 7 ∧ CellsSt w wr (w.heap.size + 1) (w.heap.size + 1 + 1) (dimL l) [.slice a0 n0 c0, .slice a1 n1 c1, .slice a2 n2 c2, .slice a3 n3 c3, .slice a4 n4 c4, .slice a5 n5 c5, .slice a6 n6 c6] us (flatL l) k) (fun _ i _ => 7 - (intOf i).toNat)
  case atStart => exact ⟨0, _, rfl, by omega, S0.out⟩
  case round =>
    obtain ⟨k, us, rfl, hk, hst⟩ := hrel
    have hlen := hst.len
    have S0 := Lib.hid hst
    clear hst
    by_cases hlt7 : k < 7
    · obtain ⟨u, hu⟩ := getElem?_ex (l := us) (k := k) (by omega)
      obtain ⟨r, hr⟩ := getElem?_ex (l := flatL l) (k := k) (by rw [S0.out.ll]; exact hlt7)
      obtain ⟨ua, un, uc, rfl⟩ := S0.out.shape hu
      have hv := (S0.out.old k (Nat.le_refl k)).symm.trans hu
      have HCL := Lib.hid (fun W (hW : Below wr.heap.size wr W) => clone_row ((S0.out.rs k _ r hu hr).1.below hW) (HN.out k _ r hv hr).2.2 (HN.out k _ r hv hr).1)
      have c1 := (S0.out.cs k _ hu).1
      have f1 := (S0.out.cs k _ hu).2
      have q1 := S0.out.qs k hlt7
      have hT := S0.out.tT.2
      have hQ := S0.out.qQ.2.1
      have HR := Lib.hid hr
      have i1 : (0 : Int) ≤ (k : Int) := by omega
      have i2 : (k : Int) < 7 := by omega
      clear hu hr hv
      go_wp2_with fail
      (with_reducible refine (HCL.out _ (by (repeat (first | with_reducible exact Below.refl _ _ | with_reducible refine Bs ?_ | with_reducible refine Ba ?_ | with_reducible refine Bd ?_ | with_reducible refine Bn ?_)))).mono ?_)
      rintro e w1 ⟨a, n, c, rfl, hi, hf, hb⟩
      have c2 := (hb.cell (p := ⟨w.heap.size + 1, k + 1, none⟩) hT).trans c1
      have f2 := (hb.frozen (p := ⟨w.heap.size + 1, k + 1, none⟩) hT).trans f1
      have hT1 := World.block_lt_of_cell? _ _ c2
      dsimp only at hT1
      have SN := Lib.hid (S0.out.next hlt7 HR.out hb hi hf)
      clear hi hf hb c1 f1
      go_wp2_with fail
      go_roundw
      case rel => exact ⟨k + 1, _, by go_num, by omega, SN.out⟩
      case measure => simp [intOf] <;> omega
    · obtain rfl : k = 7 := by omega
      have h7 : us.length = 7 := hlen
      obtain ⟨u1, u2, u3, u4, u5, u6, u7, husl⟩ : ∃ u1 u2 u3 u4 u5 u6 u7, us = [u1, u2, u3, u4, u5, u6, u7] := by
        match us, h7 with
        | [v0, v1, v2, v3, v4, v5, v6], _ => exact ⟨_, _, _, _, _, _, _, rfl⟩
      obtain ⟨cs1, hr, hcs⟩ := S0.out.rR
      clear p0 p1 p2 p3 p4 p5 p6 p7
      obtain ⟨a1, y1, c1, hu1⟩ := S0.out.shape (show us[0]? = some u1 from by rw [husl]; rfl)
      subst hu1
      obtain ⟨a2, y2, c2, hu2⟩ := S0.out.shape (show us[1]? = some u2 from by rw [husl]; rfl)
      subst hu2
      obtain ⟨a3, y3, c3, hu3⟩ := S0.out.shape (show us[2]? = some u3 from by rw [husl]; rfl)
      subst hu3
      obtain ⟨a4, y4, c4, hu4⟩ := S0.out.shape (show us[3]? = some u4 from by rw [husl]; rfl)
      subst hu4
      obtain ⟨a5, y5, c5, hu5⟩ := S0.out.shape (show us[4]? = some u5 from by rw [husl]; rfl)
      subst hu5
      obtain ⟨a6, y6, c6, hu6⟩ := S0.out.shape (show us[5]? = some u6 from by rw [husl]; rfl)
      subst hu6
      obtain ⟨a7, y7, c7, hu7⟩ := S0.out.shape (show us[6]? = some u7 from by rw [husl]; rfl)
      subst hu7
      have p0 : wr.cell? ⟨w.heap.size + 1, 0, none⟩ = some (.int .i64 (dimL l)) := S0.out.c0
      obtain ⟨v0, r0⟩ : ∃ v, wr.cell? ⟨w.heap.size, 0, none⟩ = some v := ⟨_, (hr.cell 0).trans (Array.getElem?_eq_getElem (by omega))⟩
      have s0 : wr.frozen? ⟨w.heap.size, 0, none⟩ = false := hr.frozen _
      have p1 : wr.cell? ⟨w.heap.size + 1, 1, none⟩ = some (.slice a1 y1 c1) := (S0.out.cs 0 _ (by rw [husl]; rfl)).1
      obtain ⟨v1, r1⟩ : ∃ v, wr.cell? ⟨w.heap.size, 1, none⟩ = some v := ⟨_, (hr.cell 1).trans (Array.getElem?_eq_getElem (by omega))⟩
      have s1 : wr.frozen? ⟨w.heap.size, 1, none⟩ = false := hr.frozen _
      have p2 : wr.cell? ⟨w.heap.size + 1, 2, none⟩ = some (.slice a2 y2 c2) := (S0.out.cs 1 _ (by rw [husl]; rfl)).1
      obtain ⟨v2, r2⟩ : ∃ v, wr.cell? ⟨w.heap.size, 2, none⟩ = some v := ⟨_, (hr.cell 2).trans (Array.getElem?_eq_getElem (by omega))⟩
      have s2 : wr.frozen? ⟨w.heap.size, 2, none⟩ = false := hr.frozen _
      have p3 : wr.cell? ⟨w.heap.size + 1, 3, none⟩ = some (.slice a3 y3 c3) := (S0.out.cs 2 _ (by rw [husl]; rfl)).1
      obtain ⟨v3, r3⟩ : ∃ v, wr.cell? ⟨w.heap.size, 3, none⟩ = some v := ⟨_, (hr.cell 3).trans (Array.getElem?_eq_getElem (by omega))⟩
      have s3 : wr.frozen? ⟨w.heap.size, 3, none⟩ = false := hr.frozen _
      have p4 : wr.cell? ⟨w.heap.size + 1, 4, none⟩ = some (.slice a4 y4 c4) := (S0.out.cs 3 _ (by rw [husl]; rfl)).1
      obtain ⟨v4, r4⟩ : ∃ v, wr.cell? ⟨w.heap.size, 4, none⟩ = some v := ⟨_, (hr.cell 4).trans (Array.getElem?_eq_getElem (by omega))⟩
      have s4 : wr.frozen? ⟨w.heap.size, 4, none⟩ = false := hr.frozen _
      have p5 : wr.cell? ⟨w.heap.size + 1, 5, none⟩ = some (.slice a5 y5 c5) := (S0.out.cs 4 _ (by rw [husl]; rfl)).1
      obtain ⟨v5, r5⟩ : ∃ v, wr.cell? ⟨w.heap.size, 5, none⟩ = some v := ⟨_, (hr.cell 5).trans (Array.getElem?_eq_getElem (by omega))⟩
      have s5 : wr.frozen? ⟨w.heap.size, 5, none⟩ = false := hr.frozen _
      have p6 : wr.cell? ⟨w.heap.size + 1, 6, none⟩ = some (.slice a6 y6 c6) := (S0.out.cs 5 _ (by rw [husl]; rfl)).1
      obtain ⟨v6, r6⟩ : ∃ v, wr.cell? ⟨w.heap.size, 6, none⟩ = some v := ⟨_, (hr.cell 6).trans (Array.getElem?_eq_getElem (by omega))⟩
      have s6 : wr.frozen? ⟨w.heap.size, 6, none⟩ = false := hr.frozen _
      have p7 : wr.cell? ⟨w.heap.size + 1, 7, none⟩ = some (.slice a7 y7 c7) := (S0.out.cs 6 _ (by rw [husl]; rfl)).1
      obtain ⟨v7, r7⟩ : ∃ v, wr.cell? ⟨w.heap.size, 7, none⟩ = some v := ⟨_, (hr.cell 7).trans (Array.getElem?_eq_getElem (by omega))⟩
      have s7 : wr.frozen? ⟨w.heap.size, 7, none⟩ = false := hr.frozen _
      have hzr := hr.lt
      have hz1 := S0.out.tT.2
      clear hr hcs
      go_wp2_with fail
      obtain ⟨W, hW⟩ : ∃ W, ((((((((wr.setCell ⟨w.heap.size, 0, none⟩ (.int .i64 (dimL l))).setCell ⟨w.heap.size, 1, none⟩ (.slice a1 y1 c1)).setCell ⟨w.heap.size, 2, none⟩ (.slice a2 y2 c2)).setCell ⟨w.heap.size, 3, none⟩ (.slice a3 y3 c3)).setCell ⟨w.heap.size, 4, none⟩ (.slice a4 y4 c4)).setCell ⟨w.heap.size, 5, none⟩ (.slice a5 y5 c5)).setCell ⟨w.heap.size, 6, none⟩ (.slice a6 y6 c6)).setCell ⟨w.heap.size, 7, none⟩ (.slice a7 y7 c7)) = W := ⟨_, rfl⟩
      have f0 : W.cell? ⟨w.heap.size, 0, none⟩ = some (.int .i64 (dimL l)) := by subst hW; go_simp
      have f1 : W.cell? ⟨w.heap.size, 1, none⟩ = some (.slice a1 y1 c1) := by subst hW; go_simp
      have f2 : W.cell? ⟨w.heap.size, 2, none⟩ = some (.slice a2 y2 c2) := by subst hW; go_simp
      have f3 : W.cell? ⟨w.heap.size, 3, none⟩ = some (.slice a3 y3 c3) := by subst hW; go_simp
      have f4 : W.cell? ⟨w.heap.size, 4, none⟩ = some (.slice a4 y4 c4) := by subst hW; go_simp
      have f5 : W.cell? ⟨w.heap.size, 5, none⟩ = some (.slice a5 y5 c5) := by subst hW; go_simp
      have f6 : W.cell? ⟨w.heap.size, 6, none⟩ = some (.slice a6 y6 c6) := by subst hW; go_simp
      have f7 : W.cell? ⟨w.heap.size, 7, none⟩ = some (.slice a7 y7 c7) := by subst hW; go_simp
      have HB := Lib.hid (show Below w.heap.size w W from by rw [← hW]; (repeat (first | with_reducible exact Below.refl _ _ | with_reducible refine Bs ?_ | with_reducible refine Ba ?_ | with_reducible refine Bd ?_ | with_reducible refine Bn ?_ | with_reducible refine Bt S0.out.bel ?_)))
      have HK := Lib.hid (show ∀ g, g ≠ w.heap.size → W.heap[g]? = wr.heap[g]? from fun g hg => by rw [← hW]; repeat rw [Below.heap_setCell _ _ _ _ hg])
      have HZ := Lib.hid (show wr.heap.size ≤ W.heap.size from by rw [← hW]; simp)
      rw [hW]
      refine bodyPost_ret (v := .agg #[.int .i64 (dimL l), .slice a1 y1 c1, .slice a2 y2 c2, .slice a3 y3 c3, .slice a4 y4 c4, .slice a5 y5 c5, .slice a6 y6 c6, .slice a7 y7 c7]) (by simp [results, Try.results64, go_sem, f0, f1, f2, f3, f4, f5, f6, f7]) rfl ⟨_, _, _, _, _, _, _, rfl, fun j v r hv hr => ?_, HB.out⟩
      rw [← husl] at hv
      exact ints_kept (S0.out.rs j v r hv hr).1 (fun g hg => HK.out g fun e => (S0.out.rs j v r hv hr).2.2 _ hg e) HZ.out
end Go.Proofs.Ytjmjnkilgoelbaa
