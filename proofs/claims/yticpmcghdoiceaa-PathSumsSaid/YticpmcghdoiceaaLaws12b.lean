/-
  The walk of PathSums.
-/
import Derived.Test.YticpmcghdoiceaaLaws12l
import Derived.Test.YticpmcghdoiceaaTreeS
import Derived.Test.YticpmcghdoiceaaRefPathS
namespace Go.Proofs.Yticpmcghdoiceaa
open Go.RowKit

set_option maxRecDepth 100000 in
set_option maxHeartbeats 4000000 in
theorem pathSums_walk {w : World} (v : Value) (l : List TreeP) (hv : ArgTrees w v l) (v2 : Value) (x : List Int) (hx : ArgInts .i64 w v2 x) :
    Calls Try.prog 10 #[v, v2] w fun e w' => e = .returned (.bool true) ∧ Below w.heap.size w w' := by
  have HM := Lib.hid (fun W (hW : ArgTrees W v l) => rmuch12_any v l W hW)
  have HA := Lib.hid hv
  have HAX := Lib.hid hx
  obtain ⟨ax, cx, rfl, hc1, hc2, _⟩ := hx
  obtain ⟨m, hm⟩ : ∃ m, x.length = m := ⟨_, rfl⟩
  rw [hm] at hc1 HAX ⊢
  have HML := Lib.hid hm
  clear hm
  have hmb : (m : Int) ≤ 9223372036854775807 := by omega
  have HTT := Lib.hid (fun (h : muchT l = false) => hv.trees h)
  have HML2 := Lib.hid (show muchT l = false → l.length ≤ 30 from fun h => by
    unfold muchT at h
    rw [Bool.or_eq_false_iff, decide_eq_false_iff_not] at h
    omega)
  obtain ⟨ad, cc, rfl, hd1, hd2, _⟩ := hv
  obtain ⟨M, hM⟩ : ∃ M, muchT l = M := ⟨_, rfl⟩
  rw [hM] at HM HTT HML2
  clear hM
  obtain ⟨n, hn⟩ : ∃ n, l.length = n := ⟨_, rfl⟩
  have HL := Lib.hid hn
  rw [hn] at HM HTT HA HML2 hd1 ⊢
  clear hn
  have hnb : (n : Int) ≤ 9223372036854775807 := by omega
  cases M with
  | true =>
    clear HTT HML2
    go_enter Try.func10, Try.ntmps10
    go_wp2_with fail
    (with_reducible refine (HM.out _ (HA.out.below (by (repeat (first | with_reducible exact Below.refl _ _ | ((with_reducible refine Below.setCell ?_ ?_ _); rotate_left; (focus (first | omega | (simp; done) | (simp; omega)))) | ((with_reducible refine Below.alloc ?_ ?_ _); rotate_left; (focus (first | omega | (simp; done) | (simp; omega)))) | (with_reducible refine Below.drew ?_) | (with_reducible refine below_drewN ?_ _)))))).mono ?_); rintro e w1 ⟨rfl, b1⟩; have s1 : w.heap.size ≤ w1.heap.size := (by have := b1.size; first | omega | (simp at this; omega)); have B1 := Lib.hid (show Below w.heap.size w w1 from below_tr (by (repeat (first | with_reducible exact Below.refl _ _ | ((with_reducible refine Below.setCell ?_ ?_ _); rotate_left; (focus (first | omega | (simp; done) | (simp; omega)))) | ((with_reducible refine Below.alloc ?_ ?_ _); rotate_left; (focus (first | omega | (simp; done) | (simp; omega)))) | (with_reducible refine Below.drew ?_) | (with_reducible refine below_drewN ?_ _)))) (b1.mono (by first | omega | (simp; done) | (simp; omega)))); clear b1
    go_wp2_with fail
    (with_reducible refine (lives12_any _).mono ?_); rintro e w2 ⟨rfl, b2⟩; have s2 : w1.heap.size ≤ w2.heap.size := (by have := b2.size; first | omega | (simp at this; omega)); have B2 := Lib.hid (show Below w.heap.size w w2 from below_tr (by (repeat (first | with_reducible exact Below.refl _ _ | ((with_reducible refine Below.setCell ?_ ?_ _); rotate_left; (focus (first | omega | (simp; done) | (simp; omega)))) | ((with_reducible refine Below.alloc ?_ ?_ _); rotate_left; (focus (first | omega | (simp; done) | (simp; omega)))) | (with_reducible refine Below.drew ?_) | (with_reducible refine below_drewN ?_ _) | ((with_reducible refine Below.trans ?_ (Below.mono B1.out ?_)); rotate_left; (focus (first | omega | (simp; done) | (simp; omega))))))) (b2.mono (by first | omega | (simp; done) | (simp; omega)))); clear b2
    go_wp2_with fail
    go_ret
    exact ⟨rfl, by (repeat (first | with_reducible exact Below.refl _ _ | ((with_reducible refine Below.setCell ?_ ?_ _); rotate_left; (focus (first | omega | (simp; done) | (simp; omega)))) | ((with_reducible refine Below.alloc ?_ ?_ _); rotate_left; (focus (first | omega | (simp; done) | (simp; omega)))) | (with_reducible refine Below.drew ?_) | (with_reducible refine below_drewN ?_ _) | ((with_reducible refine Below.trans ?_ (Below.mono B2.out ?_)); rotate_left; (focus (first | omega | (simp; done) | (simp; omega))))))⟩
  | false =>
    by_cases h20 : 20 < m
    · have h21 : (20 : Int) < m := by omega
      clear HTT HML2
      go_enter Try.func10, Try.ntmps10
      go_wp2_with fail
      (with_reducible refine (HM.out _ (HA.out.below (by (repeat (first | with_reducible exact Below.refl _ _ | ((with_reducible refine Below.setCell ?_ ?_ _); rotate_left; (focus (first | omega | (simp; done) | (simp; omega)))) | ((with_reducible refine Below.alloc ?_ ?_ _); rotate_left; (focus (first | omega | (simp; done) | (simp; omega)))) | (with_reducible refine Below.drew ?_) | (with_reducible refine below_drewN ?_ _)))))).mono ?_); rintro e w1 ⟨rfl, b1⟩; have s1 : w.heap.size ≤ w1.heap.size := (by have := b1.size; first | omega | (simp at this; omega)); have B1 := Lib.hid (show Below w.heap.size w w1 from below_tr (by (repeat (first | with_reducible exact Below.refl _ _ | ((with_reducible refine Below.setCell ?_ ?_ _); rotate_left; (focus (first | omega | (simp; done) | (simp; omega)))) | ((with_reducible refine Below.alloc ?_ ?_ _); rotate_left; (focus (first | omega | (simp; done) | (simp; omega)))) | (with_reducible refine Below.drew ?_) | (with_reducible refine below_drewN ?_ _)))) (b1.mono (by first | omega | (simp; done) | (simp; omega)))); clear b1
      go_wp2_with fail
      (with_reducible refine (lives12_any _).mono ?_); rintro e w2 ⟨rfl, b2⟩; have s2 : w1.heap.size ≤ w2.heap.size := (by have := b2.size; first | omega | (simp at this; omega)); have B2 := Lib.hid (show Below w.heap.size w w2 from below_tr (by (repeat (first | with_reducible exact Below.refl _ _ | ((with_reducible refine Below.setCell ?_ ?_ _); rotate_left; (focus (first | omega | (simp; done) | (simp; omega)))) | ((with_reducible refine Below.alloc ?_ ?_ _); rotate_left; (focus (first | omega | (simp; done) | (simp; omega)))) | (with_reducible refine Below.drew ?_) | (with_reducible refine below_drewN ?_ _) | ((with_reducible refine Below.trans ?_ (Below.mono B1.out ?_)); rotate_left; (focus (first | omega | (simp; done) | (simp; omega))))))) (b2.mono (by first | omega | (simp; done) | (simp; omega)))); clear b2
      go_wp2_with fail
      go_ret
      exact ⟨rfl, by (repeat (first | with_reducible exact Below.refl _ _ | ((with_reducible refine Below.setCell ?_ ?_ _); rotate_left; (focus (first | omega | (simp; done) | (simp; omega)))) | ((with_reducible refine Below.alloc ?_ ?_ _); rotate_left; (focus (first | omega | (simp; done) | (simp; omega)))) | (with_reducible refine Below.drew ?_) | (with_reducible refine below_drewN ?_ _) | ((with_reducible refine Below.trans ?_ (Below.mono B2.out ?_)); rotate_left; (focus (first | omega | (simp; done) | (simp; omega))))))⟩
    · have h21 : (m : Int) ≤ 20 := by omega
      have hn30 : n ≤ 30 := HML2.out rfl
      have HT := Lib.hid (HTT.out rfl)
      have HX := Lib.hid (show Ints .i64 w (.slice ax m cx) x from HAX.out.ints (by rw [HML.out]; omega))
      have H1 := Lib.hid (fun W v (hW : TreesR W v l) (hX : Ints .i64 W (.slice ax m cx) x) => sum_any' v _ l x W hW hX)
      have H2 := Lib.hid (fun W v (hW : TreesR W v l) (hX : Ints .i64 W (.slice ax m cx) x) => rsum12_any v _ l x W hW hX)
      have h3 := fun W v (hW : TreesR W v l.reverse) (hX : Ints .i64 W (.slice ax m cx) x) => sum_any' v _ l.reverse x W hW hX
      rw [sumE_rev, sumV_reverse] at h3
      have H3 := Lib.hid h3
      clear h3
      generalize (if sumE l x = 0 then sumV l x else 0) = SV at *
      generalize sumE l x = E at *
      obtain ⟨V, hV1, hV2⟩ := list_of_ex (m := n) (P := fun i (nv : Value) => ∀ t, l[i]? = some t → ∃ b o, ad = some ⟨b, o, none⟩ ∧ b < w.heap.size ∧ w.cell? ⟨b, o + i * 2, none⟩ = some (.int .i64 t.dim) ∧ w.cell? ⟨b, o + i * 2 + 1, none⟩ = some nv ∧ NodesR w nv t.nodes) (by
        intro i hi
        obtain ⟨t, ht⟩ := getElem?_ex (l := l) (k := i) (by rw [HL.out]; exact hi)
        obtain ⟨a, c, e, _, _, _, h⟩ := HT.out
        injection e with e1 e2 e3
        subst e1
        obtain ⟨b, o, nv, g1, g2, g3, g4, g5⟩ := h i t ht
        refine ⟨nv, fun t' ht' => ?_⟩
        rw [ht] at ht'
        injection ht' with ht'
        subst ht'
        exact ⟨b, o, g1, g2, g3, g4, g5⟩)
      obtain ⟨ps, hps⟩ : ∃ ps, ps = l.zip V := ⟨_, rfl⟩
      have hpl : ps.length = n := by rw [hps, List.length_zip, HL.out, hV1]; omega
      have hp1 : ps.map (·.1) = l := by rw [hps]; exact List.map_fst_zip (by rw [HL.out, hV1]; omega)
      have HP := Lib.hid (show ∀ i (p : TreeP × Value), ps[i]? = some p → ∃ b o, ad = some ⟨b, o, none⟩ ∧ b < w.heap.size ∧ w.cell? ⟨b, o + i * 2, none⟩ = some (.int .i64 p.1.dim) ∧ w.cell? ⟨b, o + i * 2 + 1, none⟩ = some p.2 ∧ NodesR w p.2 p.1.nodes from fun i p hp => by
        rw [hps, List.getElem?_zip_eq_some] at hp
        exact hV2 i p.2 hp.2 p.1 hp.1)
      have HPL := Lib.hid hpl
      have HP1 := Lib.hid hp1
      have hnI : (n : Int) ≤ 30 := by omega
      clear HTT HML2 HAX hV1 hV2 hps hpl hp1 hd1
      go_enter Try.func10, Try.ntmps10
      go_wp2_with fail
      (with_reducible refine (HM.out _ (HA.out.below (by (repeat (first | with_reducible exact Below.refl _ _ | ((with_reducible refine Below.setCell ?_ ?_ _); rotate_left; (focus (first | omega | (simp; done) | (simp; omega)))) | ((with_reducible refine Below.alloc ?_ ?_ _); rotate_left; (focus (first | omega | (simp; done) | (simp; omega)))) | (with_reducible refine Below.drew ?_) | (with_reducible refine below_drewN ?_ _)))))).mono ?_); rintro e w1 ⟨rfl, b1⟩; have s1 : w.heap.size ≤ w1.heap.size := (by have := b1.size; first | omega | (simp at this; omega)); have B1 := Lib.hid (show Below w.heap.size w w1 from below_tr (by (repeat (first | with_reducible exact Below.refl _ _ | ((with_reducible refine Below.setCell ?_ ?_ _); rotate_left; (focus (first | omega | (simp; done) | (simp; omega)))) | ((with_reducible refine Below.alloc ?_ ?_ _); rotate_left; (focus (first | omega | (simp; done) | (simp; omega)))) | (with_reducible refine Below.drew ?_) | (with_reducible refine below_drewN ?_ _)))) (b1.mono (by first | omega | (simp; done) | (simp; omega)))); clear b1
      go_wp2_with fail
      go_loopw [5, 6] (fun bk i wr => ∃ (k : Nat), i = .int .i64 ((k : Int) - 1) ∧ k ≤ n ∧ wr.ownsRow w.heap.size 51 2 bk (n - k) ((ps.drop k).reverse.flatMap rowF) ∧ Below w.heap.size w wr) (fun _ i _ => (intOf i + 1).toNat)
      case atStart => exact ⟨n, rfl, by omega, by rw [Nat.sub_self, List.drop_of_length_le (by rw [HPL.out]; omega)]; exact World.ownsRow_nil _ _ _ _, B1.out⟩
      case round =>
        obtain ⟨k, rfl, hk, hown, hbr⟩ := hrel
        have HOWN := Lib.hid hown
        have HBR := Lib.hid hbr
        have hsz := hbr.size
        rcases Nat.eq_zero_or_pos k with h0 | h0
        · subst h0
          rw [Int.natCast_zero]
          have ht := own_trees hown (by rw [List.length_reverse, List.length_drop, HPL.out]) (by omega) (fun p hp => by
            have hp' : p ∈ ps := by simpa using hp
            obtain ⟨i, hi⟩ := List.getElem?_of_mem hp'
            obtain ⟨_, _, _, _, _, _, hnp⟩ := HP.out i p hi
            exact hnp.below hbr)
          rw [List.drop_zero, List.map_reverse, HP1.out] at ht
          have HTB := Lib.hid ht
          clear ht hown hbr
          go_wp2_with fail
          (with_reducible refine (H1.out _ _ (HT.out.below HBR.out) (HX.out.below HBR.out)).mono ?_)
          rintro e w5 ⟨rfl, b5⟩
          have B5 := Lib.hid (show Below w.heap.size w w5 from below_tr HBR.out (b5.mono HBR.out.size))
          have HTB := Lib.hid (HTB.out.below b5)
          clear b5
          go_wp2_with fail
          (with_reducible refine (H2.out _ _ (HT.out.below B5.out) (HX.out.below B5.out)).mono ?_)
          rintro e w6 ⟨rfl, b6⟩
          have B6 := Lib.hid (show Below w.heap.size w w6 from below_tr B5.out (b6.mono B5.out.size))
          have HTB := Lib.hid (HTB.out.below b6)
          clear b6
          go_wp2_with fail
          (with_reducible refine (H3.out _ _ HTB.out (HX.out.below B6.out)).mono ?_)
          rintro e w7 ⟨rfl, b7⟩
          have B7 := Lib.hid (show Below w.heap.size w w7 from below_tr B6.out (b7.mono B6.out.size))
          have HTB := Lib.hid (HTB.out.below b7)
          clear b7
          go_wp2_with fail
          refine (lives12_any _).mono ?_
          rintro e w8 ⟨rfl, b8⟩
          have B8 := Lib.hid (show Below w.heap.size w w8 from below_tr B7.out (b8.mono B7.out.size))
          clear b8
          go_wp2_with fail
          go_ret
          exact ⟨rfl, B8.out⟩
        · obtain ⟨k, rfl⟩ : ∃ j, k = j + 1 := ⟨k - 1, by omega⟩
          rw [show (((k + 1 : Nat) : Int) - 1) = (k : Int) by omega]
          obtain ⟨p, hp⟩ := getElem?_ex (l := ps) (k := k) (by rw [HPL.out]; omega)
          obtain ⟨b, o, rfl, hb, c0, c1, hnp⟩ := HP.out k p hp
          have e0 := (hbr.cell (p := ⟨b, o + k * 2, none⟩) hb).trans c0
          have e1 := (hbr.cell (p := ⟨b, o + k * 2 + 1, none⟩) hb).trans c1
          obtain ⟨na, nc, hpv, _⟩ := hnp
          have HR := Lib.hid (show (ps.drop k).reverse.flatMap rowF = (ps.drop (k + 1)).reverse.flatMap rowF ++ [.int .i64 p.1.dim, p.2] by
            rw [List.drop_eq_getElem_cons (by rw [HPL.out]; omega), List.reverse_cons, List.flatMap_append]
            have : ps[k]'(by rw [HPL.out]; omega) = p := (List.getElem?_eq_some_iff.1 hp).2
            rw [this]
            rfl)
          have hnk : n - k = n - (k + 1) + 1 := by omega
          have i1 : (0 : Int) ≤ (k : Int) := by omega
          have i2 : (k : Int) < (n : Int) := by omega
          rw [hpv] at e1 HR
          clear hp c0 c1 hown hbr hpv
          generalize p.1.dim = pd at *
          go_wp2_with (at_builtin; go_must (refine app1 rfl _ _ 66 rfl Try.underlying66 eiTree w.heap.size (by rfl) HOWN.out (by rfl) rfl (by simp [Value.oneCell']) (by omega) (by omega) ?_))
          intro v5 w5 hown5 hb5 _
          have OWN5 := Lib.hid hown5
          have B5 := Lib.hid (show Below w.heap.size w w5 from below_tr HBR.out hb5)
          clear hown5 hb5
          go_wp2_with fail
          go_roundw
          case rel => exact ⟨k, by go_num, by omega, by rw [HR.out, hnk]; exact OWN5.out, B5.out⟩
          case measure => simp [intOf] <;> omega
end Go.Proofs.Yticpmcghdoiceaa
