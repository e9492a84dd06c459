/-
  ForE: Walks of forest.Oldest and forest.Ages.
-/
import Derived.Test.YtdbonlpkmncggaaKForA
import Derived.Test.YtdbonlpkmncggaaJ0a
namespace Go.Proofs.Ytdbonlpkmncggaa
open Go.RowKit

theorem growns_at {w : World} {ad : Option Addr} {n c : Nat} {l : List (TreeP × Int)} (h : GrownsR w (.slice ad n c) l) {i : Nat} {p : TreeP × Int} (hi : l[i]? = some p) :
    ∃ b o na nc, ad = some ⟨b, o, none⟩ ∧ b < w.heap.size ∧ w.cell? ⟨b, o + i * 3, none⟩ = some (.int .i64 p.1.dim) ∧ w.cell? ⟨b, o + i * 3 + 1, none⟩ = some (.slice na p.1.nodes.length nc) ∧ w.cell? ⟨b, o + i * 3 + 2, none⟩ = some (.int .i64 p.2) ∧ Ok64 p.2 ∧ NodesR w (.slice na p.1.nodes.length nc) p.1.nodes := by
  obtain ⟨a, cc, e, _, _, _, h⟩ := h
  injection e with e1 e2 e3
  subst e1
  obtain ⟨b, o, nv, g1, g2, g3, g4, g5, g6, g7⟩ := h i p hi
  have g7' := g7
  obtain ⟨na, nc, rfl, _⟩ := g7'
  exact ⟨b, o, na, nc, g1, g2, g3, g4, g5, g6, g7⟩

set_option maxRecDepth 100000 in
set_option maxHeartbeats 4000000 in
theorem oldest_any (v : Value) (l : List (TreeP × Int)) (w : World) (h : GrownsR w v l) :
    Calls Try.prog 11 #[v] w fun e w' => e = .returned (.tuple #[.int .i64 (oldK l l.length : Nat), .bool (decide (0 < l.length))]) ∧ Below w.heap.size w w' := by
  have HG := Lib.hid h
  obtain ⟨ad, cc, rfl, _, _, q3, _⟩ := h
  obtain ⟨n, hnn⟩ : ∃ n, l.length = n := ⟨_, rfl⟩
  rw [hnn] at q3 HG ⊢
  have HN := Lib.hid hnn
  clear hnn
  go_enter Try.func11, Try.ntmps11
  go_wp2_with fail
  go_loopw [4, 5, 6, 9] (fun best _ _ idx wr => ∃ k : Nat, idx = .int .i64 k ∧ k ≤ n ∧ best = .int .i64 (oldK l k : Nat) ∧ Below w.heap.size w wr) (fun _ _ _ idx _ => n - (intOf idx).toNat)
  case atStart => exact ⟨0, rfl, by omega, rfl, Below.refl _ _⟩
  case round =>
    obtain ⟨k, rfl, hk, rfl, hbr⟩ := hrel
    have BR := Lib.hid hbr
    have hz := hbr.size
    by_cases hlt : k < n
    · obtain ⟨p, hp⟩ := getElem?_ex (l := l) (k := k) (by rw [HN.out]; exact hlt)
      have hol := oldK_lt l (k := k) (n := n) (by omega) (by omega)
      obtain ⟨q, hq⟩ := getElem?_ex (l := l) (k := oldK l k) (by rw [HN.out]; exact hol)
      obtain ⟨b, o, na, nc, rfl, hb, c0, c1, c2, _⟩ := growns_at HG.out hp
      obtain ⟨b', o', _, _, e, _, _, _, d2, _⟩ := growns_at HG.out hq
      injection e with e
      injection e with e1 e2 e3
      subst e1 e2
      have e0 := (hbr.cell (p := ⟨b, o + k * 3, none⟩) hb).trans c0
      have e1 := (hbr.cell (p := ⟨b, o + k * 3 + 1, none⟩) hb).trans c1
      have e2 := (hbr.cell (p := ⟨b, o + k * 3 + 2, none⟩) hb).trans c2
      have e4 := (hbr.cell (p := ⟨b, o + oldK l k * 3 + 2, none⟩) hb).trans d2
      have HO := Lib.hid (show oldK l (k + 1) = if p.2 < q.2 then k else oldK l k by rw [oldK, hp, hq]; rfl)
      have hbz : b < wr.heap.size := by omega
      have hbz2 : b ≠ wr.heap.size := by omega
      have i1 : (0 : Int) ≤ (k : Int) := by omega
      have i2 : (k : Int) < (n : Int) := by omega
      generalize oldK l k = m at *
      have i3 : (0 : Int) ≤ (m : Int) := by omega
      have i4 : (m : Int) < (n : Int) := by omega
      generalize p.1.nodes.length = tn at *
      generalize p.1.dim = d at *
      generalize p.2 = z at *
      generalize q.2 = y at *
      clear c0 c1 c2 d2 hp hq hbr
      by_cases hzy : z < y
      · have G := Lib.hid (show oldK l (k + 1) = k by rw [HO.out, if_pos hzy])
        go_wp2_with fail
        go_quiet (fail)
        go_wp2_with fail
        go_roundw
        case rel => exact ⟨k + 1, by go_num, by omega, by rw [G.out], by (repeat (first | with_reducible exact Below.refl _ _ | with_reducible refine Bs ?_ | with_reducible refine Ba ?_ | with_reducible refine Bd ?_ | with_reducible refine Bn ?_ | with_reducible refine Bt BR.out ?_))⟩
        case measure => simp [intOf] <;> omega
      · have G := Lib.hid (show oldK l (k + 1) = m by rw [HO.out, if_neg hzy])
        go_wp2_with fail
        go_quiet (fail)
        go_wp2_with fail
        go_roundw
        case rel => exact ⟨k + 1, by go_num, by omega, by rw [G.out], by (repeat (first | with_reducible exact Below.refl _ _ | with_reducible refine Bs ?_ | with_reducible refine Ba ?_ | with_reducible refine Bd ?_ | with_reducible refine Bn ?_ | with_reducible refine Bt BR.out ?_))⟩
        case measure => simp [intOf] <;> omega
    · obtain rfl : k = n := by omega
      by_cases h0 : 0 < k
      · have j0 : (0 : Int) < k := by omega
        go_wp2_with fail
        exact bodyPost_ret (v := .tuple #[.int .i64 (oldK l k : Nat), .bool true]) (by simp [results, Try.results11, go_sem]) rfl ⟨by rw [decide_eq_true h0], BR.out⟩
      · obtain rfl : k = 0 := by omega
        go_wp2_with fail
        exact bodyPost_ret (v := .tuple #[.int .i64 (oldK l 0 : Nat), .bool false]) (by simp [results, Try.results11, go_sem]) rfl ⟨rfl, BR.out⟩

theorem ageE_late {l : List (TreeP × Int)} {now : Int} {k : Nat} {p : TreeP × Int} (hF : isF l = true) (hp : l[k]? = some p) (h : now < p.2) : ageE l now = 1 := by
  have h2 : (l.any fun p => decide (now < p.2)) = true := List.any_eq_true.2 ⟨p, List.mem_of_getElem? hp, by simpa using h⟩
  unfold ageE
  rw [if_neg (by rw [hF]; decide), if_pos (.inr h2)]

theorem ageE_ok {l : List (TreeP × Int)} {now : Int} (hF : isF l = true) (h1 : now ≤ 1099511627776) (h2 : ∀ (k : Nat) (p : TreeP × Int), l[k]? = some p → p.2 ≤ now) : ageE l now = 0 := by
  have h3 : ¬ (1099511627776 < now ∨ (l.any fun p => decide (now < p.2)) = true) := by
    rintro (h | h)
    · omega
    · rw [List.any_eq_true] at h
      obtain ⟨p, hp, h⟩ := h
      obtain ⟨k, hk⟩ := List.getElem?_of_mem hp
      have := h2 k p hk
      simp at h
      omega
  unfold ageE
  rw [if_neg (by rw [hF]; decide), if_neg h3]

theorem ageL_no {l : List (TreeP × Int)} {now : Int} (h : ageE l now ≠ 0) : ageL l now = [] := by unfold ageL; rw [if_neg h]

theorem ageL_yes {l : List (TreeP × Int)} {now : Int} (h : ageE l now = 0) : ageL l now = l.map fun p => now - p.2 := by unfold ageL; rw [if_pos h]

set_option maxRecDepth 100000 in
set_option maxHeartbeats 4000000 in
theorem ages_any (v : Value) (l : List (TreeP × Int)) (now : Int) (w : World) (h : GrownsR w v l) (hnow : Ok64 now) :
    Calls Try.prog 13 #[v, .int .i64 now] w fun e w' => ∃ v', e = .returned (.tuple #[v', .int .i64 (ageE l now)]) ∧ Ints .i64 w' v' (ageL l now) ∧ Below w.heap.size w w' := by
  have HG := Lib.hid h
  obtain ⟨FB, hFB⟩ : ∃ FB, isF l = FB := ⟨_, rfl⟩
  have HF := Lib.hid (fun W (hW : GrownsR W v l) => hFB ▸ fis_any v l W hW)
  have HFB := Lib.hid hFB
  obtain ⟨ad, cc, rfl, _, _, q3, _⟩ := h
  obtain ⟨n, hnn⟩ : ∃ n, l.length = n := ⟨_, rfl⟩
  rw [hnn] at q3 HG HF ⊢
  have HN := Lib.hid hnn
  clear hnn hFB
  have hn1 : -9223372036854775808 ≤ now := hnow.1
  have hn2 : now ≤ 9223372036854775807 := hnow.2
  clear hnow
  cases FB with
  | false =>
    have GE := Lib.hid (show ageE l now = 140 by unfold ageE; rw [if_pos HFB.out])
    go_enter Try.func13, Try.ntmps13
    go_wp2_with fail
    (with_reducible refine (HF.out _ (HG.out.below (by (repeat (first | with_reducible exact Below.refl _ _ | with_reducible refine Bs ?_ | with_reducible refine Ba ?_ | with_reducible refine Bd ?_ | with_reducible refine Bn ?_))))).mono ?_)
    rintro e w1 ⟨rfl, b1⟩
    have B1 := Lib.hid b1
    clear b1
    go_wp2_with fail
    exact bodyPost_ret (v := .tuple #[.slice none 0 0, .int .i64 140]) (by simp [results, Try.results13, go_sem]) rfl ⟨_, by rw [GE.out], by rw [ageL_no (by rw [GE.out]; decide)]; exact ints_nil _ _ _ _ (by omega), B1.out⟩
  | true =>
    have hn16 : n ≤ 16 := by have := isF_len HFB.out; rw [HN.out] at this; exact this
    by_cases hmx : 1099511627776 < now
    · have GE := Lib.hid (show ageE l now = 1 by unfold ageE; rw [if_neg (by rw [HFB.out]; decide), if_pos (.inl hmx)])
      go_enter Try.func13, Try.ntmps13
      go_wp2_with fail
      (with_reducible refine (HF.out _ (HG.out.below (by (repeat (first | with_reducible exact Below.refl _ _ | with_reducible refine Bs ?_ | with_reducible refine Ba ?_ | with_reducible refine Bd ?_ | with_reducible refine Bn ?_))))).mono ?_)
      rintro e w1 ⟨rfl, b1⟩
      have B1 := Lib.hid b1
      clear b1
      go_wp2_with fail
      exact bodyPost_ret (v := .tuple #[.slice none 0 0, .int .i64 1]) (by simp [results, Try.results13, go_sem]) rfl ⟨_, by rw [GE.out], by rw [ageL_no (by rw [GE.out]; decide)]; exact ints_nil _ _ _ _ (by omega), B1.out⟩
    · have hmx2 : now ≤ 1099511627776 := by omega
      go_enter Try.func13, Try.ntmps13
      go_wp2_with fail
      (with_reducible refine (HF.out _ (HG.out.below (by (repeat (first | with_reducible exact Below.refl _ _ | with_reducible refine Bs ?_ | with_reducible refine Ba ?_ | with_reducible refine Bd ?_ | with_reducible refine Bn ?_))))).mono ?_)
      rintro e w1 ⟨rfl, b1⟩
      have B1 := Lib.hid b1
      have s1 := b1.size
      clear b1
      go_wp2_with (at_make; go_must (refine mkcap rfl _ _ 27 rfl Try.underlying27 eiInt 0 n (by rfl) (by rfl) (by rfl) (by rfl) (by omega) (by omega) ?_))
      intro w2 cur r2 hcs hb2 hz2
      have hown := rowAt_own (base := w1.heap.size) (n := 0) (size := 1) (xs := intF []) (Nat.le_refl _) r2 (Nat.zero_le n) (by unfold maxLen; omega) (by omega) (by simp [intF])
      have HOWN := Lib.hid hown
      have B2 := Lib.hid (show Below w.heap.size w w2 from B1.out.trans (hb2.mono s1))
      clear hown r2 hcs hb2 hz2
      go_wp2_with fail
      go_loopw [6, 8, 21] (fun o _ idx wr => ∃ k : Nat, idx = .int .i64 k ∧ k ≤ n ∧ (∀ (j : Nat) (p : TreeP × Int), j < k → l[j]? = some p → p.2 ≤ now) ∧ wr.ownsRow w1.heap.size 3 1 o ((l.take k).map fun p => now - p.2).length (intF ((l.take k).map fun p => now - p.2)) ∧ Below w.heap.size w wr ∧ w1.heap.size ≤ wr.heap.size) (fun _ _ idx _ => n - (intOf idx).toNat)
      case atStart => exact ⟨0, rfl, by omega, fun j p h => by omega, HOWN.out, B2.out, by have := HOWN.out.2; rcases this with ⟨e, _⟩ | ⟨g, _, _, e, h1, h2, _⟩; (cases e); (have := (Array.getElem?_eq_some_iff.1 h2).1; omega)⟩
      case round =>
        obtain ⟨k, rfl, hk, hall, hown, hbr, hz1⟩ := hrel
        have HAL := Lib.hid hall
        have HO := Lib.hid hown
        have BR := Lib.hid hbr
        have hz := hbr.size
        clear hall hown HOWN B2
        by_cases hlt : k < n
        · obtain ⟨p, hp⟩ := getElem?_ex (l := l) (k := k) (by rw [HN.out]; exact hlt)
          obtain ⟨b, o, na, nc, rfl, hb, c0, c1, c2, _⟩ := growns_at HG.out hp
          have e0 := (hbr.cell (p := ⟨b, o + k * 3, none⟩) hb).trans c0
          have e1 := (hbr.cell (p := ⟨b, o + k * 3 + 1, none⟩) hb).trans c1
          have e2 := (hbr.cell (p := ⟨b, o + k * 3 + 2, none⟩) hb).trans c2
          have HTK := Lib.hid (show ((l.take (k + 1)).map fun p => now - p.2) = ((l.take k).map fun p => now - p.2) ++ [now - p.2] by rw [List.take_add_one, hp, List.map_append]; rfl)
          have hkl : ((l.take k).map fun p => now - p.2).length ≤ 1000 := by rw [List.length_map, List.length_take]; omega
          have hzz := (isF_at HFB.out hp).1
          have HP := Lib.hid hp
          have HLA := Lib.hid (show now < p.2 → ageE l now = 1 from ageE_late HFB.out hp)
          have HNX := Lib.hid (show ¬ now < p.2 → ∀ j q, j < k + 1 → l[j]? = some q → q.2 ≤ now from fun h j q hj hq => by
            rcases Nat.lt_or_ge j k with h2 | h2
            · exact HAL.out j q h2 hq
            · obtain rfl : j = k := by omega
              rw [HP.out] at hq
              injection hq with hq
              subst hq
              omega)
          have i1 : (0 : Int) ≤ (k : Int) := by omega
          have i2 : (k : Int) < (n : Int) := by omega
          have hbz : b < wr.heap.size := by omega
          have hbz2 : b ≠ wr.heap.size := by omega
          obtain ⟨LK, hLK⟩ : ∃ L, ((l.take k).map fun p => now - p.2) = L := ⟨_, rfl⟩
          rw [hLK] at HO HTK hkl
          clear c0 c1 c2 hp hbr hLK HP
          generalize p.1.nodes.length = tn at *
          generalize p.1.dim = d at *
          generalize p.2 = z at *
          by_cases hzn : now < z
          · have GE := Lib.hid (HLA.out hzn)
            go_wp2_with fail
            exact bodyPost_ret (v := .tuple #[.slice none 0 0, .int .i64 1]) (by simp [results, Try.results13, go_sem]) rfl ⟨_, by rw [GE.out], by rw [ageL_no (by rw [GE.out]; decide)]; exact ints_nil _ _ _ _ (by omega), by (repeat (first | with_reducible exact Below.refl _ _ | with_reducible refine Bs ?_ | with_reducible refine Ba ?_ | with_reducible refine Bd ?_ | with_reducible refine Bn ?_ | with_reducible refine Bt BR.out ?_))⟩
          · have GN := Lib.hid (HNX.out hzn)
            have hw1 : -9223372036854775808 ≤ now - z := by omega
            have hw2 : now - z ≤ 9223372036854775807 := by omega
            go_wp2_with (at_builtin; go_must (refine appI rfl _ _ rfl w1.heap.size (by rfl) (own_keep HO.out (fun g _ hg => (show Below wr.heap.size wr _ from by (repeat (first | with_reducible exact Below.refl _ _ | with_reducible refine Bs ?_ | with_reducible refine Ba ?_ | with_reducible refine Bd ?_ | with_reducible refine Bn ?_))).block g hg)) (by rfl) (Ints.new' .i64 _ 3 #[.int .i64 (now - z)] [now - z] _ 1 1 (by first | rfl | simp) (by rfl) (by rfl) (by omega) (by omega)) (by simp; omega) (by first | omega | (simp; done) | (simp; omega)) ?_))
            intro v4 w4 o4 g4 nb4
            have O4 := Lib.hid o4
            have B4 := Lib.hid (show Below w.heap.size w w4 from (show Below w.heap.size w _ from by (repeat (first | with_reducible exact Below.refl _ _ | with_reducible refine Bs ?_ | with_reducible refine Ba ?_ | with_reducible refine Bd ?_ | with_reducible refine Bn ?_ | with_reducible refine Bt BR.out ?_))).trans ⟨g4.os, g4.tape, g4.output, g4.size, fun q hq => g4.block q (by simp; omega) fun e => by have := (HO.out.lt q e.symm).1; omega⟩)
            have Z4 := Lib.hid (show w1.heap.size ≤ w4.heap.size by have := g4.size; simp at this; omega)
            clear o4 g4 nb4
            go_wp2_with fail
            go_roundw
            case rel => exact ⟨k + 1, by go_num, by omega, GN.out, by rw [HTK.out]; simpa using O4.out, B4.out, Z4.out⟩
            case measure => simp [intOf] <;> omega
        · obtain rfl : k = n := by omega
          have GE := Lib.hid (show ageE l now = 0 from ageE_ok HFB.out hmx2 fun j p hp => HAL.out j p (by have := (List.getElem?_eq_some_iff.1 hp).1; rw [HN.out] at this; exact this) hp)
          have hi := (Ints.own (k := .i64) (l := (l.take k).map fun p => now - p.2) HO.out (by rw [List.length_map, List.length_take]; omega)).2
          rw [List.take_of_length_le (by rw [HN.out]; omega), ← ageL_yes GE.out] at hi
          have HI := Lib.hid hi
          obtain ⟨oa, oc, rfl⟩ := hi.shape
          clear hi
          go_wp2_with fail
          exact bodyPost_ret (v := .tuple #[.slice oa (ageL l now).length oc, .int .i64 0]) (by simp [results, Try.results13, go_sem]) rfl ⟨_, by rw [GE.out], HI.out, BR.out⟩
end Go.Proofs.Ytdbonlpkmncggaa
