/-
  ForH: Walk of copseref14.Ages.
-/
import Derived.Test.YtdbonlpkmncggaaKForG
namespace Go.Proofs.Ytdbonlpkmncggaa
open Go.RowKit

set_option maxRecDepth 100000 in
set_option maxHeartbeats 4000000 in
theorem rages14_any (v : Value) (l : List (TreeP × Int)) (now : Int) (w : World) (h : GrownsR w v l) (hnow : Ok64 now) :
    Calls Try.prog 14 #[v, .int .i64 now] w fun e w' => ∃ v', e = .returned (.tuple #[v', .int .i64 (ageE l now)]) ∧ Ints .i64 w' v' (ageL l now) ∧ Below w.heap.size w w' := by
  have HG := Lib.hid h
  obtain ⟨FB, hFB⟩ : ∃ FB, isF l = FB := ⟨_, rfl⟩
  have HF := Lib.hid (fun W (hW : GrownsR W v l) => hFB ▸ ris14_any v l W hW)
  have HFB := Lib.hid hFB
  obtain ⟨ad, cc, rfl, _, _, q3, _⟩ := h
  obtain ⟨n, hnn⟩ : ∃ n, l.length = n := ⟨_, rfl⟩
  rw [hnn] at q3 HG HF ⊢
  have HN := Lib.hid hnn
  clear hnn hFB
  have hn1 : -9223372036854775808 ≤ now := hnow.1
  have hn2 : now ≤ 9223372036854775807 := hnow.2
  clear hnow
  cases FB with
  | false =>
    have GE := Lib.hid (show ageE l now = 140 by unfold ageE; rw [if_pos HFB.out])
    go_enter Try.func14, Try.ntmps14
    go_wp2_with fail
    (with_reducible refine (HF.out _ (HG.out.below (by (repeat (first | with_reducible exact Below.refl _ _ | with_reducible refine Bs ?_ | with_reducible refine Ba ?_ | with_reducible refine Bd ?_ | with_reducible refine Bn ?_))))).mono ?_)
    rintro e w1 ⟨rfl, b1⟩
    have B1 := Lib.hid b1
    clear b1
    go_wp2_with fail
    exact bodyPost_ret (v := .tuple #[.slice none 0 0, .int .i64 140]) (by simp [results, Try.results14, go_sem]) rfl ⟨_, by rw [GE.out], by rw [ageL_no (by rw [GE.out]; decide)]; exact ints_nil _ _ _ _ (by omega), B1.out⟩
  | true =>
    have hn16 : n ≤ 16 := by have := isF_len HFB.out; rw [HN.out] at this; exact this
    have hd : True := trivial
    · clear hd
      go_enter Try.func14, Try.ntmps14
      go_wp2_with fail
      (with_reducible refine (HF.out _ (HG.out.below (by (repeat (first | with_reducible exact Below.refl _ _ | with_reducible refine Bs ?_ | with_reducible refine Ba ?_ | with_reducible refine Bd ?_ | with_reducible refine Bn ?_))))).mono ?_)
      rintro e w1 ⟨rfl, b1⟩
      have B1 := Lib.hid b1
      have s1 := b1.size
      clear b1
      go_wp2_with fail
      go_loopw [6, 7] (fun o idx wr => ∃ k : Nat, idx = .int .i64 k ∧ k ≤ n ∧ (∀ (j : Nat) (p : TreeP × Int), j < k → l[j]? = some p → p.2 ≤ now) ∧ wr.ownsRow w1.heap.size 3 1 o ((l.take k).map fun p => now - p.2).length (intF ((l.take k).map fun p => now - p.2)) ∧ Below w.heap.size w wr ∧ w1.heap.size ≤ wr.heap.size) (fun _ idx _ => n - (intOf idx).toNat)
      case atStart => exact ⟨0, rfl, by omega, fun j p h => by omega, World.ownsRow_nil _ _ _ _, B1.out, Nat.le_refl _⟩
      case round =>
        obtain ⟨k, rfl, hk, hall, hown, hbr, hz1⟩ := hrel
        have HAL := Lib.hid hall
        have HO := Lib.hid hown
        have BR := Lib.hid hbr
        have hz := hbr.size
        clear hall hown
        by_cases hlt : k < n
        · obtain ⟨p, hp⟩ := getElem?_ex (l := l) (k := k) (by rw [HN.out]; exact hlt)
          obtain ⟨b, o, na, nc, rfl, hb, c0, c1, c2, _⟩ := growns_at HG.out hp
          have e2 := (hbr.cell (p := ⟨b, o + k * 3 + 2, none⟩) hb).trans c2
          have HTK := Lib.hid (show ((l.take (k + 1)).map fun p => now - p.2) = ((l.take k).map fun p => now - p.2) ++ [now - p.2] by rw [List.take_add_one, hp, List.map_append]; rfl)
          have hkl : ((l.take k).map fun p => now - p.2).length ≤ 1000 := by rw [List.length_map, List.length_take]; omega
          have hzz := (isF_at HFB.out hp).1
          have HP := Lib.hid hp
          have HLA := Lib.hid (show now < p.2 → ageE l now = 1 from ageE_late HFB.out hp)
          have HNX := Lib.hid (show ¬ now < p.2 → ∀ j q, j < k + 1 → l[j]? = some q → q.2 ≤ now from fun h j q hj hq => by
            rcases Nat.lt_or_ge j k with h2 | h2
            · exact HAL.out j q h2 hq
            · obtain rfl : j = k := by omega
              rw [HP.out] at hq
              injection hq with hq
              subst hq
              omega)
          have i1 : (0 : Int) ≤ (k : Int) := by omega
          have i2 : (k : Int) < (n : Int) := by omega
          have hbz : b < wr.heap.size := by omega
          have hbz2 : b ≠ wr.heap.size := by omega
          obtain ⟨LK, hLK⟩ : ∃ L, ((l.take k).map fun p => now - p.2) = L := ⟨_, rfl⟩
          rw [hLK] at HO HTK hkl
          clear c0 c1 c2 hp hbr hLK HP
          generalize p.1.nodes.length = tn at *
          generalize p.1.dim = d at *
          generalize p.2 = z at *
          by_cases hzn : now < z
          · have GE := Lib.hid (HLA.out hzn)
            go_wp2_with fail
            exact bodyPost_ret (v := .tuple #[.slice none 0 0, .int .i64 1]) (by simp [results, Try.results14, go_sem]) rfl ⟨_, by rw [GE.out], by rw [ageL_no (by rw [GE.out]; decide)]; exact ints_nil _ _ _ _ (by omega), by (repeat (first | with_reducible exact Below.refl _ _ | with_reducible refine Bs ?_ | with_reducible refine Ba ?_ | with_reducible refine Bd ?_ | with_reducible refine Bn ?_ | with_reducible refine Bt BR.out ?_))⟩
          · have GN := Lib.hid (HNX.out hzn)
            have hw1 : -9223372036854775808 ≤ now - z := by omega
            have hw2 : now - z ≤ 9223372036854775807 := by omega
            go_wp2_with (at_builtin; go_must (refine appI rfl _ _ rfl w1.heap.size (by rfl) (own_keep HO.out (fun g _ hg => (show Below wr.heap.size wr _ from by (repeat (first | with_reducible exact Below.refl _ _ | with_reducible refine Bs ?_ | with_reducible refine Ba ?_ | with_reducible refine Bd ?_ | with_reducible refine Bn ?_))).block g hg)) (by rfl) (Ints.new' .i64 _ 3 #[.int .i64 (now - z)] [now - z] _ 1 1 (by first | rfl | simp) (by rfl) (by rfl) (by omega) (by omega)) (by simp; omega) (by first | omega | (simp; done) | (simp; omega)) ?_))
            intro v4 w4 o4 g4 nb4
            have O4 := Lib.hid o4
            have B4 := Lib.hid (show Below w.heap.size w w4 from (show Below w.heap.size w _ from by (repeat (first | with_reducible exact Below.refl _ _ | with_reducible refine Bs ?_ | with_reducible refine Ba ?_ | with_reducible refine Bd ?_ | with_reducible refine Bn ?_ | with_reducible refine Bt BR.out ?_))).trans ⟨g4.os, g4.tape, g4.output, g4.size, fun q hq => g4.block q (by simp; omega) fun e => by have := (HO.out.lt q e.symm).1; omega⟩)
            have Z4 := Lib.hid (show w1.heap.size ≤ w4.heap.size by have := g4.size; simp at this; omega)
            clear o4 g4 nb4
            go_wp2_with fail
            go_roundw
            case rel => exact ⟨k + 1, by go_num, by omega, GN.out, by rw [HTK.out]; simpa using O4.out, B4.out, Z4.out⟩
            case measure => simp [intOf] <;> omega
        · obtain rfl : k = n := by omega
          have hi := (Ints.own (k := .i64) (l := (l.take k).map fun p => now - p.2) HO.out (by rw [List.length_map, List.length_take]; omega)).2
          have HALL := Lib.hid (show ∀ (j : Nat) (p : TreeP × Int), l[j]? = some p → p.2 ≤ now from fun j p hp => HAL.out j p (by have := (List.getElem?_eq_some_iff.1 hp).1; rw [HN.out] at this; exact this) hp)
          have HI := Lib.hid hi
          obtain ⟨oa, oc, rfl⟩ := hi.shape
          clear hi
          by_cases hmx : 1099511627776 < now
          · have GE := Lib.hid (show ageE l now = 1 by unfold ageE; rw [if_neg (by rw [HFB.out]; decide), if_pos (.inl hmx)])
            go_wp2_with fail
            exact bodyPost_ret (v := .tuple #[.slice none 0 0, .int .i64 1]) (by simp [results, Try.results14, go_sem]) rfl ⟨_, by rw [GE.out], by rw [ageL_no (by rw [GE.out]; decide)]; exact ints_nil _ _ _ _ (by omega), BR.out⟩
          · have hmx2 : now ≤ 1099511627776 := by omega
            have GE := Lib.hid (show ageE l now = 0 from ageE_ok HFB.out hmx2 HALL.out)
            have HI2 := HI.out
            rw [List.take_of_length_le (by rw [HN.out]; omega), ← ageL_yes GE.out] at HI2
            have HI3 := Lib.hid HI2
            clear HI2
            rw [List.take_of_length_le (by rw [HN.out]; omega), ← ageL_yes GE.out]
            go_wp2_with fail
            exact bodyPost_ret (v := .tuple #[.slice oa (ageL l now).length oc, .int .i64 0]) (by simp [results, Try.results14, go_sem]) rfl ⟨_, by rw [GE.out], HI3.out, BR.out⟩
end Go.Proofs.Ytdbonlpkmncggaa
