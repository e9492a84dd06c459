/-
  Walk of path.leaves: each leaf told, with its length.
-/
import Derived.Test.YticpmcghdoiceaaPathB
import Derived.Test.YticpmcghdoiceaaTreeQ
import Derived.BigRegion
namespace Go.Proofs.Yticpmcghdoiceaa
open Go.RowKit

theorem made_intsC (k : IntKind) (n : Nat) : (madeCells #[Value.int k 0] n).toList = (List.replicate n (0 : Int)).map (Value.int k) := by
  have h := made_ints k n
  rw [Nat.mul_one] at h
  exact h

def DepOk (t : TreeP) (k : Nat) (ds : List Int) : Prop :=
  ds.length = t.nodes.length ∧ ∀ (j : Nat) (d : Int), ds[j]? = some d → (j = 0 ∨ ∃ k' nd, k' < k ∧ t.nodes[k']? = some nd ∧ leafB nd = false ∧ (nd.left = (j : Int) ∨ nd.right = (j : Int))) → d = (depOf t j : Int)

theorem DepOk.leaf {t : TreeP} {k : Nat} {ds : List Int} {n : NodeP} (h : DepOk t k ds) (hn : t.nodes[k]? = some n) (hl : leafB n = true) : DepOk t (k + 1) ds := by
  refine ⟨h.1, fun j d hd hj => h.2 j d hd ?_⟩
  rcases hj with hj | ⟨k', nd, g1, g2, g3, g4⟩
  · exact .inl hj
  · refine .inr ⟨k', nd, ?_, g2, g3, g4⟩
    rcases Nat.lt_or_ge k' k with h1 | h1
    · exact h1
    · obtain rfl : k' = k := by omega
      rw [hn] at g2
      injection g2 with g2
      subst g2
      rw [hl] at g3
      cases g3

theorem DepOk.node {t : TreeP} {k m : Nat} {ds : List Int} {n : NodeP} {v : Int} (h : DepOk t k ds) (hn : t.nodes[k]? = some n) (h1 : n.left = (k : Int) + 1) (h2 : n.right = (m : Int))
    (v1 : v = (depOf t (k + 1) : Int)) (v2 : v = (depOf t m : Int)) : DepOk t (k + 1) ((ds.set (k + 1) v).set m v) := by
  refine ⟨by simp [h.1], fun j d hd hj => ?_⟩
  by_cases e1 : j = m
  · subst e1
    rw [List.getElem?_set] at hd
    simp at hd
    rw [← hd.2, v2]
  · rw [List.getElem?_set_ne (by omega)] at hd
    by_cases e2 : j = k + 1
    · subst e2
      rw [List.getElem?_set] at hd
      simp at hd
      rw [← hd.2, v1]
    · rw [List.getElem?_set_ne (by omega)] at hd
      refine h.2 j d hd ?_
      rcases hj with hj | ⟨k', nd, g1, g2, g3, g4⟩
      · exact .inl hj
      · refine .inr ⟨k', nd, ?_, g2, g3, g4⟩
        rcases Nat.lt_or_ge k' k with h3 | h3
        · exact h3
        · obtain rfl : k' = k := by omega
          rw [hn] at g2
          injection g2 with g2
          subst g2
          omega

/-- What a tree's own places say. -/
theorem dep_place {t : TreeP} (h : IsTree t) {k : Nat} {ds : List Int} (hd : DepOk t k ds) (hk : k < t.nodes.length) : ds[k]? = some (depOf t k : Int) ∧ depOf t k ≤ 6 := by
  obtain ⟨_, _, g, s, q, h1, h2⟩ := h
  have h6 : g ≤ 6 := Nat.le_trans h2 (logI_le h1)
  obtain ⟨d, hdd⟩ := getElem?_ex (l := ds) (k := k) (by rw [hd.1]; exact hk)
  have e := hd.2 k d hdd (by
    rcases Nat.eq_zero_or_pos k with h0 | h0
    · exact .inl h0
    · obtain ⟨k', nd, _, g2, g3, g4, g5⟩ := q.parent k h0 hk
      exact .inr ⟨k', nd, g2, g3, g4, g5⟩)
  have := q.dep 6 h6 k (by omega) hk
  exact ⟨by rw [hdd, e], by unfold depOf; omega⟩

theorem dep_kids {t : TreeP} (h : IsTree t) {k : Nat} {n : NodeP} (hn : t.nodes[k]? = some n) (hl : leafB n = false) :
    ∃ m : Nat, n.left = (k : Int) + 1 ∧ n.right = (m : Int) ∧ k + 1 < m ∧ m < t.nodes.length ∧ depOf t (k + 1) = depOf t k + 1 ∧ depOf t m = depOf t k + 1 := by
  obtain ⟨_, _, g, s, q, h1, h2⟩ := h
  have h6 : g ≤ 6 := Nat.le_trans h2 (logI_le h1)
  have hk := (List.getElem?_eq_some_iff.1 hn).1
  obtain ⟨m, g1, g2, g3, g4, g5, g6⟩ := q.kids k n (by omega) hk hn hl
  have e1 := (q.dep 6 h6 k (by omega) hk).1
  have e2 := (q.dep 6 h6 (k + 1) (by omega) (by omega)).1
  have e3 := (q.dep 6 h6 m (by omega) g4).1
  exact ⟨m, g1, g2, g3, g4, by unfold depOf; omega, by unfold depOf; omega⟩

set_option maxRecDepth 100000 in
set_option maxHeartbeats 4000000 in
theorem leaves_any (v : Value) (t : TreeP) (f : FuncId) (caps : Array Value) (lo : Nat) (I : Nat → World → Prop) (w : World) (hcf : ∀ args W, Sem.run Try.prog (callFunc f args) W = Result.ok (Next.enter f args) W) (h : TreeR w v t)
    (hlo : ∀ W, Below lo w W → TreeR W v t) (hlo2 : lo ≤ w.heap.size) (hst : ∀ k W W', I k W → Below w.heap.size W W' → I k W') (hI : I 0 w)
    (hT : IsTree t → ∀ (k j : Nat) (nd : NodeP) (vn : Value) W, (leavesT t t.nodes.length)[k]? = some j → t.nodes[j]? = some nd → NodeV W vn nd → I k W → w.heap.size < W.heap.size →
      Calls Try.prog f (#[vn, .int .i64 (lenOf t j)] ++ caps) W fun e w' => (∃ r, e = .returned r) ∧ I (k + 1) w' ∧ Below lo W w' ∧ ∀ q, w.heap.size ≤ q → q < W.heap.size → w'.heap[q]? = W.heap[q]?) :
    Calls Try.prog 92 #[v, .func (.func f) #[] caps] w fun e w' => e = .returned (.int .i64 (if treeB t = true then 0 else 100)) ∧ I (if treeB t = true then (leavesT t t.nodes.length).length else 0) w' ∧ Below lo w w' := by
  have HT := Lib.hid hT
  have HST := Lib.hid hst
  have HLO := Lib.hid hlo
  have HI0 := Lib.hid hI
  have HTR := Lib.hid h
  clear hT hst hlo hI
  obtain ⟨nv, rfl, ad, cc, rfl, _, _, q3, hcell⟩ := h
  cases hB : treeB t with
  | false =>
    have HC1 := Lib.hid (fun W (hW : TreeR W (.agg #[.int .i64 t.dim, .slice ad t.nodes.length cc]) t) => hB ▸ tis_any _ t W hW)
    clear hB hcell
    generalize t.nodes.length = n at *
    generalize t.dim = D at *
    go_enter Try.func92, Try.ntmps92
    go_wp2_with fail
    (with_reducible refine (HC1.out _ (HTR.out.below (by (repeat (first | with_reducible exact Below.refl _ _ | ((with_reducible refine Below.setCell ?_ ?_ _); rotate_left; (focus (first | omega | (simp; done) | (simp; omega)))) | ((with_reducible refine Below.alloc ?_ ?_ _); rotate_left; (focus (first | omega | (simp; done) | (simp; omega)))) | (with_reducible refine Below.drew ?_) | (with_reducible refine below_drewN ?_ _)))))).mono ?_); rintro e w1 ⟨rfl, b1⟩; have s1 : w.heap.size + 1 ≤ w1.heap.size := (by have := b1.size; first | omega | (simp at this; omega)); have B1 := Lib.hid (show Below w.heap.size w w1 from below_tr (by (repeat (first | with_reducible exact Below.refl _ _ | ((with_reducible refine Below.setCell ?_ ?_ _); rotate_left; (focus (first | omega | (simp; done) | (simp; omega)))) | ((with_reducible refine Below.alloc ?_ ?_ _); rotate_left; (focus (first | omega | (simp; done) | (simp; omega)))) | (with_reducible refine Below.drew ?_) | (with_reducible refine below_drewN ?_ _)))) (b1.mono (by first | omega | (simp; done) | (simp; omega)))); have c1_0 : w1.cell? ⟨w.heap.size, 0, none⟩ = some (.int .i64 D) := (b1.cell (by first | omega | (simp; done) | (simp; omega))).trans (by go_simp); have c1_1 : w1.cell? ⟨w.heap.size, 1, none⟩ = some (.slice ad n cc) := (b1.cell (by first | omega | (simp; done) | (simp; omega))).trans (by go_simp); have l1_0 : w.heap.size < w1.heap.size := (by omega); have n1_0 : w.heap.size ≠ w1.heap.size := (by omega); have m1_0 : w1.heap.size ≠ w.heap.size := (by omega); clear b1
    go_wp2_with fail
    go_ret
    exact ⟨rfl, HST.out 0 _ _ HI0.out (by (repeat (first | with_reducible exact Below.refl _ _ | ((with_reducible refine Below.setCell ?_ ?_ _); rotate_left; (focus (first | omega | (simp; done) | (simp; omega)))) | ((with_reducible refine Below.alloc ?_ ?_ _); rotate_left; (focus (first | omega | (simp; done) | (simp; omega)))) | (with_reducible refine Below.drew ?_) | (with_reducible refine below_drewN ?_ _) | ((with_reducible refine Below.trans ?_ (Below.mono B1.out ?_)); rotate_left; (focus (first | omega | (simp; done) | (simp; omega))))))), (show Below w.heap.size w w1 from by (repeat (first | with_reducible exact Below.refl _ _ | ((with_reducible refine Below.setCell ?_ ?_ _); rotate_left; (focus (first | omega | (simp; done) | (simp; omega)))) | ((with_reducible refine Below.alloc ?_ ?_ _); rotate_left; (focus (first | omega | (simp; done) | (simp; omega)))) | (with_reducible refine Below.drew ?_) | (with_reducible refine below_drewN ?_ _) | ((with_reducible refine Below.trans ?_ (Below.mono B1.out ?_)); rotate_left; (focus (first | omega | (simp; done) | (simp; omega))))))).mono hlo2⟩
  | true =>
    have HC1 := Lib.hid (fun W (hW : TreeR W (.agg #[.int .i64 t.dim, .slice ad t.nodes.length cc]) t) => hB ▸ tis_any _ t W hW)
    have HTB := Lib.hid (treeB_true.1 hB)
    have hlen := HTB.out.len
    obtain ⟨b, o, rfl⟩ : ∃ b o, ad = some ⟨b, o, none⟩ := HTR.out.addr (i := 0) (by omega)
    clear hB hcell
    obtain ⟨n, hn⟩ : ∃ n, t.nodes.length = n := ⟨_, rfl⟩
    rw [hn] at q3 HTR HC1 HLO hlen HT ⊢
    have HL := Lib.hid hn
    obtain ⟨D, hD⟩ : ∃ D, t.dim = D := ⟨_, rfl⟩
    rw [hD] at HTR HC1 HLO
    rw [hD]
    clear hn hD
    have hn127 : (n : Int) ≤ 127 := by omega
    simp only [if_true]
    go_enter Try.func92, Try.ntmps92
    go_wp2_with fail
    (with_reducible refine (HC1.out _ (HTR.out.below (by (repeat (first | with_reducible exact Below.refl _ _ | ((with_reducible refine Below.setCell ?_ ?_ _); rotate_left; (focus (first | omega | (simp; done) | (simp; omega)))) | ((with_reducible refine Below.alloc ?_ ?_ _); rotate_left; (focus (first | omega | (simp; done) | (simp; omega)))) | (with_reducible refine Below.drew ?_) | (with_reducible refine below_drewN ?_ _)))))).mono ?_); rintro e w1 ⟨rfl, b1⟩; have s1 : w.heap.size + 1 ≤ w1.heap.size := (by have := b1.size; first | omega | (simp at this; omega)); have B1 := Lib.hid (show Below w.heap.size w w1 from below_tr (by (repeat (first | with_reducible exact Below.refl _ _ | ((with_reducible refine Below.setCell ?_ ?_ _); rotate_left; (focus (first | omega | (simp; done) | (simp; omega)))) | ((with_reducible refine Below.alloc ?_ ?_ _); rotate_left; (focus (first | omega | (simp; done) | (simp; omega)))) | (with_reducible refine Below.drew ?_) | (with_reducible refine below_drewN ?_ _)))) (b1.mono (by first | omega | (simp; done) | (simp; omega)))); have c1_0 : w1.cell? ⟨w.heap.size, 0, none⟩ = some (.int .i64 D) := (b1.cell (by first | omega | (simp; done) | (simp; omega))).trans (by go_simp); have c1_1 : w1.cell? ⟨w.heap.size, 1, none⟩ = some (.slice (some ⟨b, o, none⟩) n cc) := (b1.cell (by first | omega | (simp; done) | (simp; omega))).trans (by go_simp); have l1_0 : w.heap.size < w1.heap.size := (by omega); have n1_0 : w.heap.size ≠ w1.heap.size := (by omega); have m1_0 : w1.heap.size ≠ w.heap.size := (by omega); clear b1
    go_wp2_with (at_make; go_must (refine mkfull rfl _ _ 29 rfl Try.underlying29 eiInt w1.heap.size n (by rfl) (by rfl) (by rfl) (by rfl) (by omega) (Nat.le_refl _) ?_))
    intro w2 hown hb2 _
    rw [made_intsC] at hown
    have g0 := (hb2.cell (p := ⟨w.heap.size, 0, none⟩) (by simp; omega)).trans c1_0
    have g1 := (hb2.cell (p := ⟨w.heap.size, 1, none⟩) (by simp; omega)).trans c1_1
    have s2 := hb2.size
    have B2 := Lib.hid (show Below w.heap.size w w2 from below_tr (by (repeat (first | with_reducible exact Below.refl _ _ | ((with_reducible refine Below.setCell ?_ ?_ _); rotate_left; (focus (first | omega | (simp; done) | (simp; omega)))) | ((with_reducible refine Below.alloc ?_ ?_ _); rotate_left; (focus (first | omega | (simp; done) | (simp; omega)))) | (with_reducible refine Below.drew ?_) | (with_reducible refine below_drewN ?_ _) | ((with_reducible refine Below.trans ?_ (Below.mono B1.out ?_)); rotate_left; (focus (first | omega | (simp; done) | (simp; omega))))))) (hb2.mono (by omega)))
    obtain ⟨G, hG⟩ : ∃ G, w1.heap.size = G := ⟨_, rfl⟩
    rw [hG] at hown s1 s2 ⊢
    have HOWN := Lib.hid hown
    have s2' : G < w2.heap.size := (hown.lt G rfl).2
    clear hown hb2 hG
    go_wp2_with fail
    go_loopw [6, 7, 18] (fun _ _ idx wr => ∃ (k : Nat) (ds : List Int), idx = .int .i64 k ∧ k ≤ n ∧ wr.ownsRow G 3 1 (.slice (some ⟨G, 0, none⟩) n n) n (ds.map (.int .i64)) ∧ DepOk t k ds ∧ I (leavesT t k).length wr ∧ Below lo w wr ∧ G < wr.heap.size ∧ wr.cell? ⟨w.heap.size, 0, none⟩ = some (.int .i64 D) ∧ wr.cell? ⟨w.heap.size, 1, none⟩ = some (.slice (some ⟨b, o, none⟩) n cc)) (fun _ _ idx _ => n - (intOf idx).toNat)
    case atStart =>
      refine ⟨0, List.replicate n 0, rfl, by omega, HOWN.out, ⟨by rw [List.length_replicate, HL.out], ?_⟩, HST.out 0 _ _ HI0.out B2.out, B2.out.mono hlo2, s2', g0, g1⟩
      intro j d hd hj
      have : d = 0 := by rw [List.getElem?_replicate] at hd; split at hd <;> simp at hd; exact hd.symm
      rcases hj with rfl | ⟨k', nd, h1, _⟩
      · rw [this]; unfold depOf; rw [depT_self]; rfl
      · omega
    case round =>
      obtain ⟨k, ds, rfl, hk, hown, hdep, hI, hbr, hsz, y0, y1⟩ := hrel
      have HOWN := Lib.hid hown
      have HDEP := Lib.hid hdep
      have HI := Lib.hid hI
      have HBR := Lib.hid hbr
      by_cases hlt : k < n
      · obtain ⟨nd, hnd⟩ := getElem?_ex (l := t.nodes) (k := k) (by rw [HL.out]; exact hlt)
        obtain ⟨hbw, hat⟩ := (HLO.out wr hbr).node hnd
        obtain ⟨ca, ccc, hci, e0, e1, e2, e3, e4⟩ := hat.val
        have HCI := Lib.hid hci
        have HND := Lib.hid hnd
        obtain ⟨hdk, hd6⟩ := dep_place HTB.out hdep (by rw [HL.out]; exact hlt)
        have cd : wr.cell? ⟨G, k, none⟩ = some (.int .i64 (depOf t k : Int)) := (hown.cellAt k (by omega)).trans (by rw [List.getElem?_map, hdk]; rfl)
        have i1 : (0 : Int) ≤ (k : Int) := by omega
        have i2 : (k : Int) < (n : Int) := by omega
        have hd6' : (depOf t k : Int) ≤ 6 := by omega
        clear hown hdep hI hbr hnd hat hci hdk
        have hwz : w.heap.size < wr.heap.size := by omega
        have hwz2 : w.heap.size ≠ wr.heap.size := by omega
        cases hlf : leafB nd with
        | true =>
          have hil : isLeafAt t k = true := by unfold isLeafAt; rw [HND.out]; exact hlf
          have HLS := Lib.hid (show (leavesT t (k + 1)).length = (leavesT t k).length + 1 by rw [leavesT_succ, hil]; simp)
          have HDS := Lib.hid (HDEP.out.leaf HND.out hlf)
          have HLA := Lib.hid (leavesT_at hlt hil)
          have HLEN := Lib.hid (show lenOf t k = (depOf t k : Int) * 1073741824 + normI nd.size by unfold lenOf sizeOf'; rw [HND.out]; rfl)
          have l1 := (leafB_is hlf).1
          rw [l1] at e2
          have HPL := Lib.hid (fun W (hW : NodeV W (.agg #[.slice ca nd.coef.length ccc, .int .i64 nd.at_, .int .i64 0, .int .i64 nd.right, .int .i64 nd.size]) nd) => plen_any nd _ (depOf t k) W hW (by omega))
          have HTL := Lib.hid (fun W (hW : NodeV W (.agg #[.slice ca nd.coef.length ccc, .int .i64 nd.at_, .int .i64 0, .int .i64 nd.right, .int .i64 nd.size]) nd) => HT.out HTB.out _ k nd _ W HLA.out HND.out hW)
          have HNV := Lib.hid (fun W (hW : Ints .i64 W (.slice ca nd.coef.length ccc) nd.coef) => (show NodeV W (.agg #[.slice ca nd.coef.length ccc, .int .i64 nd.at_, .int .i64 0, .int .i64 nd.right, .int .i64 nd.size]) nd from ⟨_, by rw [l1], hW⟩))
          rw [HLEN.out] at HTL
          generalize nd.at_ = xat at *
          generalize nd.right = xr at *
          generalize nd.size = xz at *
          generalize nd.coef.length = cl at *
          generalize depOf t k = dk at *
          generalize normI xz = nz at *
          clear hlf hil l1
          go_wp2_with fail
          have P0 := Lib.hid True.intro
          go_region_held3 (fun w' => w'.cell? ⟨wr.heap.size, 0, none⟩ = some (.slice ca cl ccc) ∧ w'.cell? ⟨wr.heap.size, 1, none⟩ = some (.int .i64 xat) ∧ w'.cell? ⟨wr.heap.size, 2, none⟩ = some (.int .i64 0) ∧ w'.cell? ⟨wr.heap.size, 3, none⟩ = some (.int .i64 xr) ∧ w'.cell? ⟨wr.heap.size, 4, none⟩ = some (.int .i64 xz) ∧ w'.cell? ⟨G, k, none⟩ = some (.int .i64 (dk : Int))) (first | (go_simp; done) | (go_keep; done) | (refine ⟨?_, ?_, ?_, ?_, ?_, ?_⟩ <;> first | (go_simp; done) | (go_keep; done))) (first | (first | (go_at_call 87; clear P0; have P1 := Lib.hid True.intro; (with_reducible refine (HPL.out _ (HNV.out _ (HCI.out.below (by (repeat (first | with_reducible exact Below.refl _ _ | ((with_reducible refine Below.setCell ?_ ?_ _); rotate_left; (focus (first | omega | (simp; done) | (simp; omega)))) | ((with_reducible refine Below.alloc ?_ ?_ _); rotate_left; (focus (first | omega | (simp; done) | (simp; omega)))) | (with_reducible refine Below.drew ?_) | (with_reducible refine below_drewN ?_ _))))))).mono ?_); rintro e w4 ⟨rfl, b4⟩; have B4 := Lib.hid (show Below wr.heap.size wr w4 from below_tr (by (repeat (first | with_reducible exact Below.refl _ _ | ((with_reducible refine Below.setCell ?_ ?_ _); rotate_left; (focus (first | omega | (simp; done) | (simp; omega)))) | ((with_reducible refine Below.alloc ?_ ?_ _); rotate_left; (focus (first | omega | (simp; done) | (simp; omega)))) | (with_reducible refine Below.drew ?_) | (with_reducible refine below_drewN ?_ _)))) (b4.mono (by first | omega | (simp; done) | (simp; omega)))); have s4 : wr.heap.size + 1 ≤ w4.heap.size := (by have := b4.size; first | omega | (simp at this; omega)); have z0 : w4.cell? ⟨wr.heap.size, 0, none⟩ = some (.slice ca cl ccc) := (b4.cell (by first | omega | (simp; done) | (simp; omega))).trans (by go_simp); have z1 : w4.cell? ⟨wr.heap.size, 1, none⟩ = some (.int .i64 xat) := (b4.cell (by first | omega | (simp; done) | (simp; omega))).trans (by go_simp); have z2 : w4.cell? ⟨wr.heap.size, 2, none⟩ = some (.int .i64 0) := (b4.cell (by first | omega | (simp; done) | (simp; omega))).trans (by go_simp); have z3 : w4.cell? ⟨wr.heap.size, 3, none⟩ = some (.int .i64 xr) := (b4.cell (by first | omega | (simp; done) | (simp; omega))).trans (by go_simp); have z4 : w4.cell? ⟨wr.heap.size, 4, none⟩ = some (.int .i64 xz) := (b4.cell (by first | omega | (simp; done) | (simp; omega))).trans (by go_simp); have z5 : w4.cell? ⟨G, k, none⟩ = some (.int .i64 (dk : Int)) := (b4.cell (by first | omega | (simp; done) | (simp; omega))).trans (by go_simp); have z6 : w4.cell? ⟨w.heap.size, 0, none⟩ = some (.int .i64 D) := (b4.cell (by first | omega | (simp; done) | (simp; omega))).trans (by go_simp); have z7 : w4.cell? ⟨w.heap.size, 1, none⟩ = some (.slice (some ⟨b, o, none⟩) n cc) := (b4.cell (by first | omega | (simp; done) | (simp; omega))).trans (by go_simp); clear b4) | ((refine (HTL.out _ (HNV.out _ (HCI.out.below (by (repeat (first | with_reducible exact Below.refl _ _ | ((with_reducible refine Below.setCell ?_ ?_ _); rotate_left; (focus (first | omega | (simp; done) | (simp; omega)))) | ((with_reducible refine Below.alloc ?_ ?_ _); rotate_left; (focus (first | omega | (simp; done) | (simp; omega)))) | (with_reducible refine Below.drew ?_) | (with_reducible refine below_drewN ?_ _) | ((with_reducible refine Below.trans ?_ (Below.mono B4.out ?_)); rotate_left; (focus (first | omega | (simp; done) | (simp; omega))))))))) (HST.out _ _ _ HI.out (by (repeat (first | with_reducible exact Below.refl _ _ | ((with_reducible refine Below.setCell ?_ ?_ _); rotate_left; (focus (first | omega | (simp; done) | (simp; omega)))) | ((with_reducible refine Below.alloc ?_ ?_ _); rotate_left; (focus (first | omega | (simp; done) | (simp; omega)))) | (with_reducible refine Below.drew ?_) | (with_reducible refine below_drewN ?_ _) | ((with_reducible refine Below.trans ?_ (Below.mono B4.out ?_)); rotate_left; (focus (first | omega | (simp; done) | (simp; omega)))))))) (by omega)).mono ?_); rintro e w5 ⟨⟨rr, rfl⟩, hI5, b5, hk5⟩; have B5 := Lib.hid (show Below lo w4 w5 from b5); have I5 := Lib.hid hI5; have K5 := Lib.hid (show ∀ q, w.heap.size ≤ q → q < w4.heap.size → w5.heap[q]? = w4.heap[q]? from fun q h1 h2 => hk5 q h1 (by first | exact h2 | (simp; exact h2))); have s5 : w4.heap.size ≤ w5.heap.size := (by have := b5.size; first | omega | (simp at this; omega)); have x0 := (cell_of_block (o := 0) (K5.out (wr.heap.size) (by omega) (by omega))).trans z0; have x1 := (cell_of_block (o := 1) (K5.out (wr.heap.size) (by omega) (by omega))).trans z1; have x2 := (cell_of_block (o := 2) (K5.out (wr.heap.size) (by omega) (by omega))).trans z2; have x3 := (cell_of_block (o := 3) (K5.out (wr.heap.size) (by omega) (by omega))).trans z3; have x4 := (cell_of_block (o := 4) (K5.out (wr.heap.size) (by omega) (by omega))).trans z4; have x5 := (cell_of_block (o := k) (K5.out (G) (by omega) (by omega))).trans z5; have x6 := (cell_of_block (o := 0) (K5.out (w.heap.size) (by omega) (by omega))).trans z6; have x7 := (cell_of_block (o := 1) (K5.out (w.heap.size) (by omega) (by omega))).trans z7; clear hI5 b5 hk5)))
          have own5 := Lib.hid (own_keep (own_keep HOWN.out (fun g _ hg => B4.out.block g hg)) (fun g hg hg2 => K5.out g (by omega) hg2))
          have BB := Lib.hid (show Below lo w w5 from below_tr (below_tr HBR.out (B4.out.mono (by omega))) B5.out)
          clear z0 z1 z2 z3 z4 z5 z6 z7 x0 x1 x2 x3 x4 x5
          go_wp2_with fail
          go_roundw
          case rel => exact ⟨k + 1, ds, by go_num, by omega, own5.out, HDS.out, by rw [HLS.out]; exact I5.out, BB.out, by omega, x6, x7⟩
          case measure => simp [intOf] <;> omega
        | false =>
          have hil : isLeafAt t k = false := by unfold isLeafAt; rw [HND.out]; exact hlf
          have HLS := Lib.hid (show (leavesT t (k + 1)).length = (leavesT t k).length by rw [leavesT_succ, hil]; simp)
          obtain ⟨m, k1, k2, k3, k4, k5, k6⟩ := dep_kids HTB.out HND.out hlf
          have HDS := Lib.hid (HDEP.out.node (v := (depOf t k : Int) + 1) HND.out k1 k2 (by rw [k5]; omega) (by rw [k6]; omega))
          rw [k1] at e2
          rw [k2] at e3
          have J1 := Lib.hid (show (((k : Int) + 1) == 0) = false by simp; omega)
          have hmn : (m : Int) < n := by have := HL.out; omega
          have hm0 : (0 : Int) ≤ m := by omega
          obtain ⟨dp, hdp⟩ := getElem?_ex (l := ds) (k := k + 1) (by rw [HDEP.out.1]; omega)
          obtain ⟨dm, hdm⟩ := getElem?_ex (l := ds) (k := m) (by rw [HDEP.out.1]; omega)
          have cp : wr.cell? ⟨G, k + 1, none⟩ = some (.int .i64 dp) := (HOWN.out.cellAt (k + 1) (by omega)).trans (by rw [List.getElem?_map, hdp]; rfl)
          have cm : wr.cell? ⟨G, m, none⟩ = some (.int .i64 dm) := (HOWN.out.cellAt m (by omega)).trans (by rw [List.getElem?_map, hdm]; rfl)
          have fp := HOWN.out.frozenAt (k + 1)
          have fm := HOWN.out.frozenAt m
          generalize nd.at_ = xat at *
          generalize nd.size = xz at *
          generalize nd.coef.length = cl at *
          generalize depOf t k = dk at *
          have hp1 : (k : Int) + 1 < n := by omega
          have hkm : k + 1 < m := k3
          clear hlf hil k1 k2 k3 k4 k5 k6 hdp hdm
          have j1 := J1.out
          go_wp2_with fail
          obtain ⟨W5, hW5⟩ : ∃ W5, W5 = wr.alloc (.cells #[.slice ca cl ccc, .int .i64 xat, .int .i64 ((k : Int) + 1), .int .i64 m, .int .i64 xz] 65) := ⟨_, rfl⟩
          have t0 : W5.cell? ⟨wr.heap.size, 2, none⟩ = some (.int .i64 ((k : Int) + 1)) := by rw [hW5]; go_simp
          have t1 : W5.cell? ⟨wr.heap.size, 3, none⟩ = some (.int .i64 m) := by rw [hW5]; go_simp
          have t2 : W5.cell? ⟨G, k, none⟩ = some (.int .i64 (dk : Int)) := by rw [hW5]; go_simp
          have t3 : W5.cell? ⟨G, k + 1, none⟩ = some (.int .i64 dp) := by rw [hW5]; go_simp
          have t4 : W5.cell? ⟨G, m, none⟩ = some (.int .i64 dm) := by rw [hW5]; go_simp
          have t5 : W5.cell? ⟨w.heap.size, 0, none⟩ = some (.int .i64 D) := by rw [hW5]; go_simp
          have t6 : W5.cell? ⟨w.heap.size, 1, none⟩ = some (.slice (some ⟨b, o, none⟩) n cc) := by rw [hW5]; go_simp
          have t8 : W5.frozen? ⟨G, k + 1, none⟩ = false := by rw [hW5]; go_simp
          have t9 : W5.frozen? ⟨G, m, none⟩ = false := by rw [hW5]; go_simp
          have OWN5 := Lib.hid (show W5.ownsRow _ _ _ _ _ _ from by rw [hW5]; exact HOWN.out.alloc _)
          have BW5 := Lib.hid (show Below lo w W5 from by rw [hW5]; exact below_tr HBR.out ((show Below wr.heap.size wr _ from by (repeat (first | with_reducible exact Below.refl _ _ | ((with_reducible refine Below.setCell ?_ ?_ _); rotate_left; (focus (first | omega | (simp; done) | (simp; omega)))) | ((with_reducible refine Below.alloc ?_ ?_ _); rotate_left; (focus (first | omega | (simp; done) | (simp; omega)))) | (with_reducible refine Below.drew ?_) | (with_reducible refine below_drewN ?_ _)))).mono (by omega)))
          have I5 := Lib.hid (show I (leavesT t k).length W5 from by rw [hW5]; exact HST.out _ _ _ HI.out (by (repeat (first | with_reducible exact Below.refl _ _ | ((with_reducible refine Below.setCell ?_ ?_ _); rotate_left; (focus (first | omega | (simp; done) | (simp; omega)))) | ((with_reducible refine Below.alloc ?_ ?_ _); rotate_left; (focus (first | omega | (simp; done) | (simp; omega)))) | (with_reducible refine Below.drew ?_) | (with_reducible refine below_drewN ?_ _)))))
          have hz5 : G < W5.heap.size := by rw [hW5]; simp; omega
          rw [← hW5]
          clear hW5 e0 e1 e2 e3 e4 cd cp cm fp fm
          have ne_kkp1 : k ≠ k + 1 := by omega
          have en_kkp1 : k + 1 ≠ k := by omega
          have ne_km : k ≠ m := by omega
          have en_km : m ≠ k := by omega
          have ne_kp1m : k + 1 ≠ m := by omega
          have en_kp1m : m ≠ k + 1 := by omega
          have wg : w.heap.size ≠ G := by omega
          go_region
          go_wp2_with fail
          go_roundw
          case rel =>
            refine ⟨k + 1, (ds.set (k + 1) ((dk : Int) + 1)).set m ((dk : Int) + 1), by go_num, by omega, ?_, HDS.out, by rw [HLS.out]; exact HST.out _ _ _ I5.out (by (repeat (first | with_reducible exact Below.refl _ _ | ((with_reducible refine Below.setCell ?_ ?_ _); rotate_left; (focus (first | omega | (simp; done) | (simp; omega)))) | ((with_reducible refine Below.alloc ?_ ?_ _); rotate_left; (focus (first | omega | (simp; done) | (simp; omega)))) | (with_reducible refine Below.drew ?_) | (with_reducible refine below_drewN ?_ _)))), below_tr BW5.out (by (repeat (first | with_reducible exact Below.refl _ _ | ((with_reducible refine Below.setCell ?_ ?_ _); rotate_left; (focus (first | omega | (simp; done) | (simp; omega)))) | ((with_reducible refine Below.alloc ?_ ?_ _); rotate_left; (focus (first | omega | (simp; done) | (simp; omega)))) | (with_reducible refine Below.drew ?_) | (with_reducible refine below_drewN ?_ _)))), by simp; omega, by go_simp, by go_simp⟩
            rw [List.map_set, List.map_set]
            exact ((OWN5.out.stored (k + 1) _).1.stored m _).1.drew
          case measure => simp [intOf] <;> omega
      · obtain rfl : k = n := by omega
        go_wp2_with fail
        go_ret
        exact ⟨rfl, HI.out, HBR.out⟩
end Go.Proofs.Yticpmcghdoiceaa
