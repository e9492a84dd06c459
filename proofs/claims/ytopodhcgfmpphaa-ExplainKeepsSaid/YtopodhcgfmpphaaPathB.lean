/-
  Walks of path.length, Length and Trail.
-/
import Derived.Test.YtopodhcgfmpphaaPathA
import Derived.Test.YtopodhcgfmpphaaTail
namespace Go.Proofs.Ytopodhcgfmpphaa
open Go.RowKit

theorem plen_any (n : NodeP) (v : Value) (d : Nat) (w : World) (h : NodeV w v n) (hd : d ≤ 1000) :
    Calls Try.prog 117 #[v, .int .i64 (d : Int)] w fun e w' => e = .returned (.int .i64 ((d : Int) * 1073741824 + normI n.size)) ∧ Below w.heap.size w w' := by
  obtain ⟨cv, rfl, a, c, rfl, _⟩ := h
  have HN := Lib.hid (fun W => norm_any n.size W)
  have hb := norm_bd n.size
  have h1 : 0 ≤ normI n.size := by unfold normI; omega
  have h2 : normI n.size ≤ 549755813888 := by unfold normI; omega
  generalize normI n.size = z at *
  generalize n.coef.length = cl at *
  generalize n.at_ = xa at *
  generalize n.left = xl at *
  generalize n.right = xr at *
  generalize n.size = xs at *
  have hd2 : (d : Int) ≤ 1000 := by omega
  clear hb
  go_enter Try.func117, Try.ntmps117
  go_wp2_with fail
  refine (HN.out _).mono ?_
  rintro e w1 ⟨rfl, dd, rfl⟩
  go_wp2_with fail
  go_ret
  exact ⟨rfl, by (repeat (first | with_reducible exact Below.refl _ _ | ((with_reducible refine Below.setCell ?_ ?_ _); rotate_left; (focus (first | omega | (simp; done) | (simp; omega)))) | ((with_reducible refine Below.alloc ?_ ?_ _); rotate_left; (focus (first | omega | (simp; done) | (simp; omega)))) | (with_reducible refine Below.drew ?_) | (with_reducible refine below_drewN ?_ _)))⟩

/-- How long the path of a vector is. -/
noncomputable def lenV (t : TreeP) (x : List Int) : Int :=
  match (wayL t x).getLast? with
  | some j => (((wayL t x).length - 1 : Nat) : Int) * 1073741824 + normI ((t.nodes[j]?).elim 0 NodeP.size)
  | none => 0

theorem getLast_idx {l : List Nat} {j : Nat} (h : l.getLast? = some j) : l[l.length - 1]? = some j := by
  rw [List.getLast?_eq_getElem?] at h; exact h

theorem way_facts {t : TreeP} {x : List Int} (h : treeB t = true) : ∃ j n, (wayL t x).getLast? = some j ∧ t.nodes[j]? = some n ∧ leafB n = true ∧ 1 ≤ (wayL t x).length ∧ (wayL t x).length ≤ 7 ∧ j < t.nodes.length := by
  obtain ⟨_, _, h0, s0, q, h1, h2⟩ := treeB_true.1 h
  have h6 : h0 ≤ 6 := Nat.le_trans h2 (logI_le h1)
  obtain ⟨j, n, g1, g2, g3, g4, g5⟩ := q.wayLeaf x
  obtain ⟨e1, e2⟩ := q.way x 6 h6
  have e3 : wayL t x = wayT t x h0 0 := e1
  rw [e3]
  refine ⟨j, n, g1, g4, g5, ?_, by omega, g3⟩
  exact List.length_pos_iff.2 (wayT_ne t x h0 0)

/-- What Length's closure has written, behind k nodes. -/
def LenI (l : List Nat) (B k : Nat) (w : World) : Prop :=
  B + 2 < w.heap.size ∧ w.cell? ⟨B + 1, 0, none⟩ = some (.int .i64 ((l.getD (k - 1) 0 : Nat) : Int)) ∧ w.cell? ⟨B + 2, 0, none⟩ = some (.int .i64 ((k - 1 : Nat) : Int)) ∧ w.frozen? ⟨B + 1, 0, none⟩ = false ∧ w.frozen? ⟨B + 2, 0, none⟩ = false

theorem LenI.stable {l : List Nat} {B k : Nat} {w w' : World} (h : LenI l B k w) (b : Below w.heap.size w w') : LenI l B k w' := by
  obtain ⟨h1, h2, h3, h4, h5⟩ := h
  refine ⟨Nat.lt_of_lt_of_le h1 b.size, (b.cell (p := ⟨B + 1, 0, none⟩) (by simp; omega)).trans h2, (b.cell (p := ⟨B + 2, 0, none⟩) (by simp; omega)).trans h3, (b.frozen (p := ⟨B + 1, 0, none⟩) (by simp; omega)).trans h4, (b.frozen (p := ⟨B + 2, 0, none⟩) (by simp; omega)).trans h5⟩

theorem lentell_any (l : List Nat) (B N k j : Nat) (w : World) (h : LenI l B k w) (hj : l[k]? = some j) (hN : N ≠ B + 1) (hN2 : N ≠ B + 2) :
    Calls Try.prog 116 #[.int .i64 (j : Int), .int .i64 (k : Int), .pointer (some ⟨B + 1, 0, none⟩), .pointer (some ⟨B + 2, 0, none⟩)] w
      fun e w' => (∃ r, e = .returned r) ∧ LenI l B (k + 1) w' ∧ Below (B + 1) w w' ∧ w'.heap[N]? = w.heap[N]? := by
  obtain ⟨h1, h2, h3, h4, h5⟩ := h
  have HG := Lib.hid (show l.getD (k + 1 - 1) 0 = j by rw [Nat.add_sub_cancel, List.getD_eq_getElem?_getD, hj]; rfl)
  generalize l.getD (k - 1) 0 = q at *
  generalize k - 1 = p at *
  clear hj
  go_enter Try.func116, Try.ntmps116
  go_wp2_with fail
  go_end0
  refine ⟨⟨_, rfl⟩, ⟨by simpa using h1, ?_, by go_simp, by go_simp, by go_simp⟩, by (repeat (first | with_reducible exact Below.refl _ _ | ((with_reducible refine Below.setCell ?_ ?_ _); rotate_left; (focus (first | omega | (simp; done) | (simp; omega)))) | ((with_reducible refine Below.alloc ?_ ?_ _); rotate_left; (focus (first | omega | (simp; done) | (simp; omega)))) | (with_reducible refine Below.drew ?_) | (with_reducible refine below_drewN ?_ _))), ?_⟩
  · rw [HG.out]; go_simp
  · rw [Below.heap_setCell _ _ _ _ hN2, Below.heap_setCell _ _ _ _ hN]

set_option maxRecDepth 100000 in
set_option maxHeartbeats 2000000 in
theorem length_any (v vx : Value) (t : TreeP) (x : List Int) (w : World) (h : TreeR w v t) (hx : Ints .i64 w vx x) :
    Calls Try.prog 77 #[v, vx] w fun e w' => e = .returned (.tuple #[.int .i64 (if pathE t x = 0 then lenV t x else 0), .int .i64 (pathE t x)]) ∧ Below w.heap.size w w' := by
  have HTR := Lib.hid h
  have HX := Lib.hid hx
  have HW := Lib.hid (fun lo I W hcf h1 h2 h3 h4 h5 h6 h7 => way_any v vx t x 116 #[.pointer (some ⟨w.heap.size + 1, 0, none⟩), .pointer (some ⟨w.heap.size + 2, 0, none⟩)] lo I W hcf h1 h2 h3 h4 h5 h6 h7)
  obtain ⟨nv, rfl, ad, cc, rfl, _, _, q3, hcell⟩ := h
  obtain ⟨E, hE⟩ : ∃ E, pathE t x = E := ⟨_, rfl⟩
  rw [hE] at HW ⊢
  have HE := Lib.hid hE
  clear hcell hx hE
  obtain ⟨n, hn⟩ : ∃ n, t.nodes.length = n := ⟨_, rfl⟩
  rw [hn] at q3 HTR HW ⊢
  have HL := Lib.hid hn
  clear hn
  obtain ⟨D, hD⟩ : ∃ D, t.dim = D := ⟨_, rfl⟩
  rw [hD] at HTR HW ⊢
  clear hD
  go_enter Try.func77, Try.ntmps77
  go_wp2_with fail
  (with_reducible refine (HW.out (w.heap.size + 1) (LenI (wayL t x) w.heap.size) _ ?_ (HTR.out.below (by (repeat (first | with_reducible exact Below.refl _ _ | ((with_reducible refine Below.setCell ?_ ?_ _); rotate_left; (focus (first | omega | (simp; done) | (simp; omega)))) | ((with_reducible refine Below.alloc ?_ ?_ _); rotate_left; (focus (first | omega | (simp; done) | (simp; omega)))) | (with_reducible refine Below.drew ?_) | (with_reducible refine below_drewN ?_ _))))) (HX.out.below (by (repeat (first | with_reducible exact Below.refl _ _ | ((with_reducible refine Below.setCell ?_ ?_ _); rotate_left; (focus (first | omega | (simp; done) | (simp; omega)))) | ((with_reducible refine Below.alloc ?_ ?_ _); rotate_left; (focus (first | omega | (simp; done) | (simp; omega)))) | (with_reducible refine Below.drew ?_) | (with_reducible refine below_drewN ?_ _))))) ?_ (by simp <;> omega) (fun k W W' hI hb => hI.stable hb) ?_ ?_).mono ?_)
  · intro args W
    rfl
  · intro W hb
    have hb2 : Below w.heap.size w W := below_tr (by (repeat (first | with_reducible exact Below.refl _ _ | ((with_reducible refine Below.setCell ?_ ?_ _); rotate_left; (focus (first | omega | (simp; done) | (simp; omega)))) | ((with_reducible refine Below.alloc ?_ ?_ _); rotate_left; (focus (first | omega | (simp; done) | (simp; omega)))) | (with_reducible refine Below.drew ?_) | (with_reducible refine below_drewN ?_ _)))) (hb.mono (by omega))
    exact ⟨HTR.out.below hb2, HX.out.below hb2⟩
  · have e0 : (wayL t x).getD (0 - 1) 0 = 0 := by rw [List.getD_eq_getElem?_getD, show (wayL t x)[0 - 1]? = some 0 from wayT_head t x 6 0]; rfl
    refine ⟨by simp, ?_, by go_simp, by go_simp, by go_simp⟩
    rw [e0]; go_simp
  · intro k j W hj hk hI hs
    have hs2 : w.heap.size + 3 < W.heap.size := by simpa using hs
    exact lentell_any (wayL t x) w.heap.size _ k j W hI hj (by simp <;> omega) (by simp <;> omega)
  rintro e w1 ⟨rfl, hI, b1⟩
  have B1 := Lib.hid (show Below (w.heap.size + 1) _ _ from b1)
  have c0 := (b1.cell (p := ⟨w.heap.size, 0, none⟩) (by simp)).trans (show _ = some (.int .i64 D) by go_simp)
  have c1 := (b1.cell (p := ⟨w.heap.size, 1, none⟩) (by simp)).trans (show _ = some (.slice ad n cc) by go_simp)
  have BW := Lib.hid (show Below w.heap.size w w1 from below_tr (by (repeat (first | with_reducible exact Below.refl _ _ | ((with_reducible refine Below.setCell ?_ ?_ _); rotate_left; (focus (first | omega | (simp; done) | (simp; omega)))) | ((with_reducible refine Below.alloc ?_ ?_ _); rotate_left; (focus (first | omega | (simp; done) | (simp; omega)))) | (with_reducible refine Below.drew ?_) | (with_reducible refine below_drewN ?_ _)))) (b1.mono (by omega)))
  clear b1
  by_cases hz : E = 0
  · subst hz
    have htb : treeB t = true := by
      have h := HE.out
      unfold pathE at h
      split at h
      · assumption
      · omega
    obtain ⟨j, nd, g1, g2, g3, g4, g5, g6⟩ := way_facts (x := x) htb
    rw [if_pos rfl] at hI
    obtain ⟨i1, i2, i3, i4, i5⟩ := hI
    have hgd : (wayL t x).getD ((wayL t x).length - 1) 0 = j := by rw [List.getD_eq_getElem?_getD, getLast_idx g1]; rfl
    have HLV := Lib.hid (show lenV t x = (((wayL t x).length - 1 : Nat) : Int) * 1073741824 + normI nd.size by unfold lenV; rw [g1]; simp only []; rw [g2]; rfl)
    rw [hgd] at i2
    obtain ⟨K, hK⟩ : ∃ K, (wayL t x).length - 1 = K := ⟨_, rfl⟩
    rw [hK] at i3 HLV
    have hK7 : K ≤ 6 := by omega
    have hT := HTR.out.below BW.out
    obtain ⟨b, o, rfl⟩ := hT.addr g6
    obtain ⟨hb, hat⟩ := hT.node g2
    obtain ⟨ca, ccc, hci, e0, e1, e2, e3, e4⟩ := hat.val
    have HPL := Lib.hid (fun W (hW : Ints .i64 W (.slice ca nd.coef.length ccc) nd.coef) => plen_any nd (.agg #[.slice ca nd.coef.length ccc, .int .i64 nd.at_, .int .i64 nd.left, .int .i64 nd.right, .int .i64 nd.size]) K W ⟨_, rfl, hW⟩ (by omega))
    have HCI := Lib.hid hci
    have hj0 : (0 : Int) ≤ j := by omega
    have hjn : (j : Int) < n := by have := HL.out; omega
    clear htb g1 g2 g3 g4 g5 g6 hgd hK hT hat hci i4 i5 HE
    generalize nd.at_ = xat at *
    generalize nd.left = xl at *
    generalize nd.right = xr at *
    generalize nd.size = xz at *
    generalize nd.coef.length = cl at *
    have hnb := norm_bd xz
    go_wp2_with fail
    refine wp_region_tail_quiet 6 (by kernel_rfl) (by kernel_rfl) ?_; simp only [List.take_succ_cons, List.take_zero, List.drop_succ_cons, List.drop_zero]; (repeat (go_big_quiet_step (fail))); refine wpQuiet_nil ?_
    go_wp2_with (go_at_call 117; go_must (with_reducible refine (HPL.out _ (HCI.out.below (by (repeat (first | with_reducible exact Below.refl _ _ | ((with_reducible refine Below.setCell ?_ ?_ _); rotate_left; (focus (first | omega | (simp; done) | (simp; omega)))) | ((with_reducible refine Below.alloc ?_ ?_ _); rotate_left; (focus (first | omega | (simp; done) | (simp; omega)))) | (with_reducible refine Below.drew ?_) | (with_reducible refine below_drewN ?_ _)))))).mono ?_))
    rintro e w2 ⟨rfl, b2⟩
    go_wp2_with fail
    exact bodyPost_ret (v := .tuple #[.int .i64 ((K : Int) * 1073741824 + normI xz), .int .i64 0]) (by simp [results, Try.results77, go_sem]) rfl ⟨by rw [HLV.out], by (repeat (first | with_reducible exact Below.refl _ _ | ((with_reducible refine Below.setCell ?_ ?_ _); rotate_left; (focus (first | omega | (simp; done) | (simp; omega)))) | ((with_reducible refine Below.alloc ?_ ?_ _); rotate_left; (focus (first | omega | (simp; done) | (simp; omega)))) | (with_reducible refine Below.drew ?_) | (with_reducible refine below_drewN ?_ _) | ((with_reducible refine Below.trans ?_ (Below.mono b2 ?_)); rotate_left; (focus (first | omega | (simp; done) | (simp; omega)))) | ((with_reducible refine Below.trans ?_ (Below.mono BW.out ?_)); rotate_left; (focus (first | omega | (simp; done) | (simp; omega))))))⟩
  · have j1 : (E != 0) = true := by simp [hz]
    have HZ := Lib.hid hz
    clear hI hz
    go_wp2_with fail
    exact bodyPost_ret (v := .tuple #[.int .i64 0, .int .i64 E]) (by simp [results, Try.results77, go_sem]) rfl ⟨rfl, by (repeat (first | with_reducible exact Below.refl _ _ | ((with_reducible refine Below.setCell ?_ ?_ _); rotate_left; (focus (first | omega | (simp; done) | (simp; omega)))) | ((with_reducible refine Below.alloc ?_ ?_ _); rotate_left; (focus (first | omega | (simp; done) | (simp; omega)))) | (with_reducible refine Below.drew ?_) | (with_reducible refine below_drewN ?_ _) | ((with_reducible refine Below.trans ?_ (Below.mono BW.out ?_)); rotate_left; (focus (first | omega | (simp; done) | (simp; omega))))))⟩

/-- What Trail's closure has written, behind k nodes. -/
def TrailI (l : List Nat) (B k : Nat) (w : World) : Prop :=
  ∃ v, B + 1 < w.heap.size ∧ w.cell? ⟨B + 1, 0, none⟩ = some v ∧ w.frozen? ⟨B + 1, 0, none⟩ = false ∧ w.ownsRow (B + 3) 3 1 v k ((l.take k).map fun (j : Nat) => .int .i64 (j : Int))

theorem TrailI.stable {l : List Nat} {B k : Nat} {w w' : World} (h : TrailI l B k w) (b : Below w.heap.size w w') : TrailI l B k w' := by
  obtain ⟨v, h1, h2, h3, h4⟩ := h
  exact ⟨v, Nat.lt_of_lt_of_le h1 b.size, (b.cell (p := ⟨B + 1, 0, none⟩) (by simp; omega)).trans h2, (b.frozen (p := ⟨B + 1, 0, none⟩) (by simp; omega)).trans h3, own_keep h4 fun g _ hg => b.block g hg⟩

set_option maxHeartbeats 1000000 in
theorem trailtell_any (l : List Nat) (B k j : Nat) (w : World) (h : TrailI l B k w) (hj : l[k]? = some j) (hk : k ≤ 6) (hs : B + 2 < w.heap.size) :
    Calls Try.prog 134 #[.int .i64 (j : Int), .int .i64 (k : Int), .pointer (some ⟨B + 1, 0, none⟩)] w
      fun e w' => (∃ r, e = .returned r) ∧ TrailI l B (k + 1) w' ∧ Below (B + 1) w w' ∧ w'.heap[B + 2]? = w.heap[B + 2]? := by
  obtain ⟨v, h1, h2, h3, h4⟩ := h
  have HT := Lib.hid (show (l.take (k + 1)).map (fun (j : Nat) => Value.int .i64 (j : Int)) = List.take k (l.map (fun (j : Nat) => Value.int .i64 (j : Int))) ++ [.int .i64 (j : Int)] by rw [take_snoc' hj, List.map_append, List.map_take]; rfl)
  have HOWN := Lib.hid h4
  clear hj h4
  go_enter Try.func134, Try.ntmps134
  go_wp2_with (at_builtin; go_must (refine app1 rfl _ _ 25 rfl Try.underlying25 eiInt (B + 3) (by rfl) (by exact HOWN.out) (by rfl) (by rfl) (by intro u hu; simp at hu; subst hu; rfl) (by omega) (by omega) ?_))
  intro v' w' hown hb _
  obtain ⟨g, cp, rfl⟩ : ∃ g cp, v' = .slice (some ⟨g, 0, none⟩) (k + 1) cp := by
    rcases hown.2 with ⟨_, h0⟩ | ⟨g, cap, cur, e, _⟩
    · omega
    · exact ⟨g, cap, e⟩
  have c0 := (hb.cell (p := ⟨B + 1, 0, none⟩) (by simp)).trans h2
  have f0 := (hb.frozen (p := ⟨B + 1, 0, none⟩) (by simp)).trans h3
  have s0 := hb.size
  have HO2 := Lib.hid hown
  have HB2 := Lib.hid hb
  clear hown hb
  go_wp2_with fail
  go_end0
  refine ⟨⟨_, rfl⟩, ⟨.slice (some ⟨g, 0, none⟩) (k + 1) cp, by simp; omega, by go_simp, by go_simp, ?_⟩, (HB2.out.mono (by omega)).setCell (by simp) _, ?_⟩
  · rw [HT.out]
    exact ownsRow_setCell_below HO2.out (by simp) _
  · rw [Below.heap_setCell _ _ _ _ (by simp)]
    exact HB2.out.block _ (by omega)

set_option maxRecDepth 100000 in
set_option maxHeartbeats 2000000 in
theorem trail_any (v vx : Value) (t : TreeP) (x : List Int) (w : World) (h : TreeR w v t) (hx : Ints .i64 w vx x) :
    Calls Try.prog 105 #[v, vx] w fun e w' => ∃ vo, e = .returned (.tuple #[vo, .int .i64 (pathE t x)]) ∧ Ints .i64 w' vo (if pathE t x = 0 then (wayL t x).map (fun (j : Nat) => (j : Int)) else []) ∧ Below w.heap.size w w' := by
  have HTR := Lib.hid h
  have HX := Lib.hid hx
  have HW := Lib.hid (fun lo I W hcf h1 h2 h3 h4 h5 h6 h7 => way_any v vx t x 134 #[.pointer (some ⟨w.heap.size + 1, 0, none⟩)] lo I W hcf h1 h2 h3 h4 h5 h6 h7)
  obtain ⟨nv, rfl, ad, cc, rfl, _, _, q3, hcell⟩ := h
  obtain ⟨E, hE⟩ : ∃ E, pathE t x = E := ⟨_, rfl⟩
  rw [hE] at HW ⊢
  have HE := Lib.hid hE
  clear hcell hx hE
  obtain ⟨n, hn⟩ : ∃ n, t.nodes.length = n := ⟨_, rfl⟩
  rw [hn] at q3 HTR HW ⊢
  clear hn
  obtain ⟨D, hD⟩ : ∃ D, t.dim = D := ⟨_, rfl⟩
  rw [hD] at HTR HW ⊢
  clear hD
  go_enter Try.func105, Try.ntmps105
  go_wp2_with fail
  (with_reducible refine (HW.out (w.heap.size + 1) (TrailI (wayL t x) w.heap.size) _ ?_ (HTR.out.below (by (repeat (first | with_reducible exact Below.refl _ _ | ((with_reducible refine Below.setCell ?_ ?_ _); rotate_left; (focus (first | omega | (simp; done) | (simp; omega)))) | ((with_reducible refine Below.alloc ?_ ?_ _); rotate_left; (focus (first | omega | (simp; done) | (simp; omega)))) | (with_reducible refine Below.drew ?_) | (with_reducible refine below_drewN ?_ _))))) (HX.out.below (by (repeat (first | with_reducible exact Below.refl _ _ | ((with_reducible refine Below.setCell ?_ ?_ _); rotate_left; (focus (first | omega | (simp; done) | (simp; omega)))) | ((with_reducible refine Below.alloc ?_ ?_ _); rotate_left; (focus (first | omega | (simp; done) | (simp; omega)))) | (with_reducible refine Below.drew ?_) | (with_reducible refine below_drewN ?_ _))))) ?_ (by simp <;> omega) (fun k W W' hI hb => hI.stable hb) ?_ ?_).mono ?_)
  · intro args W
    rfl
  · intro W hb
    have hb2 : Below w.heap.size w W := below_tr (by (repeat (first | with_reducible exact Below.refl _ _ | ((with_reducible refine Below.setCell ?_ ?_ _); rotate_left; (focus (first | omega | (simp; done) | (simp; omega)))) | ((with_reducible refine Below.alloc ?_ ?_ _); rotate_left; (focus (first | omega | (simp; done) | (simp; omega)))) | (with_reducible refine Below.drew ?_) | (with_reducible refine below_drewN ?_ _)))) (hb.mono (by omega))
    exact ⟨HTR.out.below hb2, HX.out.below hb2⟩
  · exact ⟨.slice none 0 0, by simp, by go_simp, by go_simp, World.ownsRow_nil _ _ _ _⟩
  · intro k j W hj hk hI hs
    have hs2 : w.heap.size + 2 < W.heap.size := by simpa using hs
    have e2 : (((w.alloc (.cells #[.int .i64 D, .slice ad n cc] 24)).alloc (.cells #[.slice none 0 0] 25))).heap.size = w.heap.size + 2 := by simp
    rw [e2]
    exact trailtell_any (wayL t x) w.heap.size k j W hI hj hk hs2
  rintro e w1 ⟨rfl, hI, b1⟩
  have BW := Lib.hid (show Below w.heap.size w w1 from below_tr (by (repeat (first | with_reducible exact Below.refl _ _ | ((with_reducible refine Below.setCell ?_ ?_ _); rotate_left; (focus (first | omega | (simp; done) | (simp; omega)))) | ((with_reducible refine Below.alloc ?_ ?_ _); rotate_left; (focus (first | omega | (simp; done) | (simp; omega)))) | (with_reducible refine Below.drew ?_) | (with_reducible refine below_drewN ?_ _)))) (b1.mono (by omega)))
  clear b1
  by_cases hz : E = 0
  · subst hz
    have htb : treeB t = true := by
      have h := HE.out
      unfold pathE at h
      split at h
      · assumption
      · omega
    obtain ⟨j, nd, g1, g2, g3, g4, g5, g6⟩ := way_facts (x := x) htb
    rw [if_pos rfl] at hI
    obtain ⟨vo, i1, i2, i3, i4⟩ := hI
    rw [List.take_length] at i4
    have i5 := Ints.own (l := (wayL t x).map (fun (j : Nat) => (j : Int))) (by rw [List.map_map]; exact i4) (by simp; omega)
    have I5 := Lib.hid i5.2
    clear htb g1 g2 g3 g4 g5 g6 i3 i4 i5 HE
    go_wp2_with fail
    exact bodyPost_ret (v := .tuple #[vo, .int .i64 0]) (by simp [results, Try.results105, go_sem]) rfl ⟨vo, rfl, I5.out, BW.out⟩
  · have j1 : (E != 0) = true := by simp [hz]
    have HZ := Lib.hid hz
    clear hI hz
    go_wp2_with fail
    exact bodyPost_ret (v := .tuple #[.slice none 0 0, .int .i64 E]) (by simp [results, Try.results105, go_sem]) rfl ⟨_, rfl, ints_nil _ _ _ _ (by omega), BW.out⟩
end Go.Proofs.Ytopodhcgfmpphaa
