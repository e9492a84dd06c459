/-
  copseref12.Much of an argument that is a slice of trees; what its reading carries.
-/
import Derived.Test.YtopodhcgfmpphaaMuch
namespace Go.Proofs.Ytopodhcgfmpphaa
open Go.RowKit

theorem ArgInts.below' {w w' : World} {v : Value} {l : List Int} (h : ArgInts .i64 w v l) (B : Below w.heap.size w w') : ArgInts .i64 w' v l := by
  obtain ⟨a, c, e, h1, h2, h3, h4⟩ := h
  refine ⟨a, c, e, h1, h2, fun i x hi => ?_, h4⟩
  obtain ⟨b, o, e, hb, hc⟩ := h3 i x hi
  exact ⟨b, o, e, Nat.lt_of_lt_of_le hb B.size, (B.cell (p := ⟨b, o + i, none⟩) hb).trans hc⟩

theorem ArgNodes.below {w w' : World} {v : Value} {l : List NodeP} (h : ArgNodes w v l) (B : Below w.heap.size w w') : ArgNodes w' v l := by
  obtain ⟨a, c, e, h1, h2, h⟩ := h
  refine ⟨a, c, e, h1, h2, fun i n hi => ?_⟩
  obtain ⟨b, o, e, hb, cv, g0, k1, k2, k3, k4, k5⟩ := h i n hi
  exact ⟨b, o, e, Nat.lt_of_lt_of_le hb B.size, cv, g0.below' B, (B.cell (p := ⟨b, _, none⟩) hb).trans k1, (B.cell (p := ⟨b, _, none⟩) hb).trans k2, (B.cell (p := ⟨b, _, none⟩) hb).trans k3, (B.cell (p := ⟨b, _, none⟩) hb).trans k4, (B.cell (p := ⟨b, _, none⟩) hb).trans k5⟩

theorem ArgTree.below {w w' : World} {v : Value} {t : TreeP} (h : ArgTree w v t) (B : Below w.heap.size w w') : ArgTree w' v t := by
  obtain ⟨nv, e, h⟩ := h
  exact ⟨nv, e, h.below B⟩

theorem ArgTrees.below {w w' : World} {v : Value} {l : List TreeP} (h : ArgTrees w v l) (B : Below w.heap.size w w') : ArgTrees w' v l := by
  obtain ⟨a, c, e, h1, h2, h⟩ := h
  refine ⟨a, c, e, h1, h2, fun i t hi => ?_⟩
  obtain ⟨b, o, nv, e, hb, c0, c1, hn⟩ := h i t hi
  exact ⟨b, o, nv, e, Nat.lt_of_lt_of_le hb B.size, (B.cell (p := ⟨b, _, none⟩) hb).trans c0, (B.cell (p := ⟨b, _, none⟩) hb).trans c1, hn.below B⟩

def muchT (l : List TreeP) : Bool := decide (30 < l.length) || l.any fun t => muchN t.nodes

theorem ArgTrees.trees {w : World} {v : Value} {l : List TreeP} (h : ArgTrees w v l) (hm : muchT l = false) : TreesR w v l := by
  obtain ⟨a, c, e, h1, h2, h⟩ := h
  unfold muchT at hm
  rw [Bool.or_eq_false_iff, decide_eq_false_iff_not, List.any_eq_false] at hm
  refine ⟨a, c, e, h1, h2, by omega, fun i t hi => ?_⟩
  obtain ⟨b, o, nv, e, hb, c0, c1, hn⟩ := h i t hi
  exact ⟨b, o, nv, e, hb, c0, c1, hn.nodes (by simpa using hm.2 t (List.mem_of_getElem? hi))⟩

set_option maxHeartbeats 1000000 in
theorem rmuch12_any (v : Value) (l : List TreeP) (w : World) (h : ArgTrees w v l) :
    Calls Try.prog 24 #[v] w fun e w' => e = .returned (.bool (muchT l)) ∧ Below w.heap.size w w' := by
  obtain ⟨ad, cc, rfl, hc1, hc2, h⟩ := h
  have H := Lib.hid h
  clear h
  have HN := Lib.hid (show muchT l = (decide (30 < l.length) || l.any fun t => muchN t.nodes) from rfl)
  obtain ⟨M, hM⟩ : ∃ M, muchT l = M := ⟨_, rfl⟩
  rw [hM] at HN ⊢
  clear hM
  obtain ⟨n, hn⟩ : ∃ n, l.length = n := ⟨_, rfl⟩
  rw [hn] at HN hc1 ⊢
  have HL := Lib.hid hn
  clear hn
  have hnb : (n : Int) ≤ 9223372036854775807 := by omega
  by_cases h2 : 30 < n
  · have G := Lib.hid (show M = true by rw [HN.out]; simp [h2])
    have h3 : (30 : Int) < n := by omega
    go_enter Try.func24, Try.ntmps24
    go_wp2_with fail
    go_ret
    exact ⟨by rw [G.out]; rfl, by (repeat (first | with_reducible exact Below.refl _ _ | ((with_reducible refine Below.setCell ?_ ?_ _); rotate_left; (focus (first | omega | (simp; done) | (simp; omega)))) | ((with_reducible refine Below.alloc ?_ ?_ _); rotate_left; (focus (first | omega | (simp; done) | (simp; omega)))) | (with_reducible refine Below.drew ?_) | (with_reducible refine below_drewN ?_ _)))⟩
  · have h3 : (n : Int) ≤ 30 := by omega
    go_enter Try.func24, Try.ntmps24
    go_wp2_with fail
    go_loopw [3] (fun i wr => ∃ k : Nat, i = .int .i64 k ∧ k ≤ n ∧ (∀ j t, j < k → l[j]? = some t → muchN t.nodes = false) ∧ Below w.heap.size w wr) (fun i _ => n - (intOf i).toNat)
    case atStart => exact ⟨0, rfl, by omega, fun j nd h => by omega, Below.refl _ _⟩
    case round =>
      obtain ⟨k, rfl, hk, hall, hbr⟩ := hrel
      have HA := Lib.hid hall
      have HBR := Lib.hid hbr
      have hsz := hbr.size
      clear hall
      by_cases hlt : k < n
      · obtain ⟨t, ht⟩ := getElem?_ex (l := l) (k := k) (by rw [HL.out]; exact hlt)
        obtain ⟨b, o, nv, rfl, hb, c0, c1, hnv⟩ := H.out k t ht
        have e0 := (hbr.cell (p := ⟨b, o + k * 2, none⟩) hb).trans c0
        have e1 := (hbr.cell (p := ⟨b, o + k * 2 + 1, none⟩) hb).trans c1
        have HT := Lib.hid (show ArgTree w (.agg #[.int .i64 t.dim, nv]) t from ⟨nv, rfl, hnv⟩)
        obtain ⟨na, nc, rfl, _⟩ := hnv
        have HK := Lib.hid ht
        have i1 : (0 : Int) ≤ (k : Int) := by omega
        have i2 : (k : Int) < (n : Int) := by omega
        clear ht c0 c1 hbr
        obtain ⟨TB, hTB⟩ : ∃ TB, muchN t.nodes = TB := ⟨_, rfl⟩
        have HTI := Lib.hid (fun W (hW : ArgTree W (.agg #[.int .i64 t.dim, .slice na t.nodes.length nc]) t) => hTB ▸ rmuch_any _ t W hW)
        have HTB := Lib.hid hTB
        clear hTB
        generalize t.nodes.length = tn at *
        generalize t.dim = d at *
        cases TB with
        | true =>
          have G := Lib.hid (show M = true by
            rw [HN.out, Bool.or_eq_true, List.any_eq_true]
            exact .inr ⟨t, List.mem_of_getElem? HK.out, HTB.out⟩)
          go_wp2_with fail
          (with_reducible refine (HTI.out _ (HT.out.below HBR.out)).mono ?_)
          rintro e w4 ⟨rfl, b4⟩
          have B4 := Lib.hid b4
          clear b4
          go_wp2_with fail
          go_ret
          exact ⟨by rw [G.out]; rfl, by (repeat (first | with_reducible exact Below.refl _ _ | ((with_reducible refine Below.setCell ?_ ?_ _); rotate_left; (focus (first | omega | (simp; done) | (simp; omega)))) | ((with_reducible refine Below.alloc ?_ ?_ _); rotate_left; (focus (first | omega | (simp; done) | (simp; omega)))) | (with_reducible refine Below.drew ?_) | (with_reducible refine below_drewN ?_ _) | ((with_reducible refine Below.trans ?_ (Below.mono B4.out ?_)); rotate_left; (focus (first | omega | (simp; done) | (simp; omega)))) | ((with_reducible refine Below.trans ?_ (Below.mono HBR.out ?_)); rotate_left; (focus (first | omega | (simp; done) | (simp; omega))))))⟩
        | false =>
          go_wp2_with fail
          (with_reducible refine (HTI.out _ (HT.out.below HBR.out)).mono ?_)
          rintro e w4 ⟨rfl, b4⟩
          have B4 := Lib.hid b4
          clear b4
          go_wp2_with fail
          go_roundw
          case rel =>
            refine ⟨k + 1, by go_num, by omega, fun j t' hj ht' => ?_, by (repeat (first | with_reducible exact Below.refl _ _ | ((with_reducible refine Below.setCell ?_ ?_ _); rotate_left; (focus (first | omega | (simp; done) | (simp; omega)))) | ((with_reducible refine Below.alloc ?_ ?_ _); rotate_left; (focus (first | omega | (simp; done) | (simp; omega)))) | (with_reducible refine Below.drew ?_) | (with_reducible refine below_drewN ?_ _) | ((with_reducible refine Below.trans ?_ (Below.mono B4.out ?_)); rotate_left; (focus (first | omega | (simp; done) | (simp; omega)))) | ((with_reducible refine Below.trans ?_ (Below.mono HBR.out ?_)); rotate_left; (focus (first | omega | (simp; done) | (simp; omega))))))⟩
            rcases Nat.lt_or_ge j k with h | h
            · exact HA.out j t' h ht'
            · obtain rfl : j = k := by omega
              rw [HK.out] at ht'
              injection ht' with ht'
              subst ht'
              exact HTB.out
          case measure => simp [intOf] <;> omega
      · obtain rfl : k = n := by omega
        have G := Lib.hid (show M = false by
          rw [HN.out, Bool.or_eq_false_iff, List.any_eq_false]
          refine ⟨by simp; omega, fun t ht => ?_⟩
          obtain ⟨i, hi⟩ := List.getElem?_of_mem ht
          have := HA.out i t (by have := (List.getElem?_eq_some_iff.1 hi).1; have := HL.out; omega) hi
          simp [this])
        go_wp2_with fail
        go_ret
        exact ⟨by rw [G.out]; rfl, HBR.out⟩

theorem eiTree : EI Try.prog 24 (.agg #[.int .i64 0, .slice none 0 0]) 2 32 := .of (by kernel_rfl) rfl (by decide) (by decide)
end Go.Proofs.Ytopodhcgfmpphaa
