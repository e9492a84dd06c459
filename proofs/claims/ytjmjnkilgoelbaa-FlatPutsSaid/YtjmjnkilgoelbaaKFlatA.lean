/-
  FlatA: Walks of harm.Table and of flat.move.
-/
import Derived.Test.YtjmjnkilgoelbaaJ2a
import Derived.Test.YtjmjnkilgoelbaaKRowU
import Derived.Test.YtjmjnkilgoelbaaJ0a
namespace Go.Proofs.Ytjmjnkilgoelbaa
open Go.RowKit

/-- The averages up to 64 points. -/
def normsL : List Int := (List.range 65).map fun (k : Nat) => normI (k : Int)

theorem normsL_get {i : Nat} (h : i ≤ 64) : normsL[i]? = some (normI (i : Int)) := by
  unfold normsL
  rw [List.getElem?_map, List.getElem?_range (by omega)]
  rfl

theorem heldN_nat {k : Nat} (h : k ≤ 64) : heldN (k : Int) = k := by
  unfold heldN clampI
  split
  · omega
  · split
    · omega
    · omega

set_option maxRecDepth 100000 in
set_option maxHeartbeats 4000000 in
theorem table_any (w : World) : Calls Try.prog 131 #[.int .i64 64] w fun e w' => ∃ v', e = .returned v' ∧ Ints .i64 w' v' normsL ∧ Fresh w.heap.size v' ∧ Below w.heap.size w w' := by
  have HH := Lib.hid (fun W => held_any 64 W)
  rw [show heldN 64 = 64 by decide +kernel] at HH
  go_enter Try.func131, Try.ntmps131
  go_wp2_with fail
  refine (HH.out _).mono ?_
  rintro e w1 ⟨rfl, rfl⟩
  go_wp2_with (at_make; go_must (refine mkcap rfl _ _ 61 rfl Try.underlying61 eiInt 0 65 (by rfl) (by rfl) (by rfl) (by rfl) (by decide) (by decide) ?_))
  intro w2 cur r2 hcs hb2 hz2
  have hown := rowAt_own (base := w.heap.size) (n := 0) (size := 1) (xs := intF []) (Nat.le_refl _) r2 (Nat.zero_le 65) (by decide) hcs (by simp [intF])
  have HOWN := Lib.hid hown
  have B2 := Lib.hid hb2
  clear hown r2 hcs hb2 hz2
  go_wp2_with fail
  go_loopw [3, 4, 5, 16] (fun t a b i wr => ∃ k : Nat, i = .int .i64 k ∧ k ≤ 65 ∧ a = .int .i64 (lowN (k - 2)) ∧ b = .int .i64 (brokN (k - 2)) ∧ wr.ownsRow w.heap.size 3 1 t (normsL.take k).length (intF (normsL.take k)) ∧ Below w.heap.size w wr) (fun _ _ _ i _ => 65 - (intOf i).toNat)
  case atStart => exact ⟨0, rfl, by omega, rfl, rfl, HOWN.out, B2.out⟩
  case round =>
    obtain ⟨k, rfl, hk, rfl, rfl, hown, hbr⟩ := hrel
    have HO := Lib.hid hown
    have BR := Lib.hid hbr
    clear hown hbr
    by_cases hlt : k < 65
    · have hn1 : normsL.take (k + 1) = normsL.take k ++ [normI (k : Int)] := by rw [List.take_add_one, normsL_get (by omega)]; rfl
      have hnl : (normsL.take k).length ≤ 65 := by rw [List.length_take]; omega
      have HN := Lib.hid hn1
      have HNL := Lib.hid hnl
      have hb := norm_bd (k : Int)
      rw [heldN_nat (by omega)] at hb
      have HNI := Lib.hid (show normI (k : Int) = (loN k + hiN k) / 2 by unfold normI; rw [heldN_nat (by omega)])
      have HE := Lib.hid (fun W => ends_any' k W (by omega) (k - 1) rfl)
      have i2 : (k : Int) < 65 := by omega
      have hz := BR.out.size
      obtain ⟨lo, hlo⟩ : ∃ x, loN k = x := ⟨_, rfl⟩
      obtain ⟨hi, hhi⟩ : ∃ x, hiN k = x := ⟨_, rfl⟩
      rw [hlo, hhi] at HE HNI hb
      obtain ⟨b1, b2, b3, b4, b5, b6⟩ := hb
      clear hn1 hnl hlo hhi
      by_cases hk2 : k < 2
      · have e0 : k - 2 = 0 := by omega
        have e1 : k - 1 = 0 := by omega
        have e2 : k + 1 - 2 = 0 := by omega
        rw [e1] at HE
        rw [e0]
        have i3 : ¬ (2 : Int) ≤ (k : Int) := by omega
        have HE2 := Lib.hid e2
        clear e0 e1 e2
        rw [show lowN 0 = 0 from rfl, show brokN 0 = 0 from rfl, Int.natCast_zero] at HE
        rw [show lowN 0 = 0 from rfl, show brokN 0 = 0 from rfl, Int.natCast_zero]
        go_wp2_with fail
        (with_reducible refine (HE.out _).mono ?_)
        rintro e w3 ⟨rfl, d3, rfl⟩
        go_wp2_with (at_builtin; go_must (refine appI rfl _ _ rfl w.heap.size (by rfl) (own_keep HO.out (fun g _ hg => (show Below wr.heap.size wr _ from by (repeat (first | with_reducible exact Below.refl _ _ | with_reducible refine Bs ?_ | with_reducible refine Ba ?_ | with_reducible refine Bd ?_ | with_reducible refine Bn ?_))).block g hg)) (by rfl) (Ints.new' .i64 _ 3 #[.int .i64 _] [_] _ 1 1 (by simp) (by rfl) (by rfl) (by omega) (by omega)) (by have := HNL.out; simp; omega) (by first | (simp; done) | (simp; omega)) ?_))
        intro v4 w4 o4 g4 _
        have O4 := Lib.hid (show w4.ownsRow w.heap.size 3 1 v4 (normsL.take (k + 1)).length (intF (normsL.take (k + 1))) from by rw [HN.out, HNI.out]; simpa using o4)
        have B4 := Lib.hid ((show Below w.heap.size w _ from by (repeat (first | with_reducible exact Below.refl _ _ | with_reducible refine Bs ?_ | with_reducible refine Ba ?_ | with_reducible refine Bd ?_ | with_reducible refine Bn ?_ | with_reducible refine Bt BR.out ?_))).grown g4 (by first | (simp; done) | (simp; omega)) (fun q hq => (HO.out.lt q hq).1))
        clear o4 g4
        go_wp2_with fail
        go_roundw
        case rel => exact ⟨k + 1, by go_num, by omega, by rw [HE2.out]; rfl, by rw [HE2.out]; rfl, O4.out, B4.out⟩
        case measure => simp [intOf] <;> omega
      · obtain ⟨j, rfl⟩ : ∃ j, k = j + 2 := ⟨k - 2, by omega⟩
        rw [show j + 2 - 1 = j + 1 by omega] at HE
        rw [show j + 2 - 2 = j by omega]
        have h4 := Nat.div_le_self 1073741824 (j + 1)
        have h5 := lowN_le j
        have h6 := brokN_le j
        have e1 : lowN (j + 1) = lowN j + 1073741824 / (j + 1) := rfl
        have e2 : brokN (j + 1) = brokN j + if 1073741824 % (j + 1) = 0 then 0 else 1 := rfl
        have HE1 := Lib.hid e1
        have HE2 := Lib.hid e2
        rw [e1, e2] at HE
        obtain ⟨L, hL⟩ : ∃ L, lowN j = L := ⟨_, rfl⟩
        obtain ⟨B, hB⟩ : ∃ B, brokN j = B := ⟨_, rfl⟩
        obtain ⟨q, hq⟩ : ∃ q, 1073741824 / (j + 1) = q := ⟨_, rfl⟩
        obtain ⟨r, hr⟩ : ∃ r, 1073741824 % (j + 1) = r := ⟨_, rfl⟩
        have hquo : Int.tdiv 1073741824 ((j : Int) + 1) = q := by rw [← hq]; rfl
        have hrem : Int.tmod 1073741824 ((j : Int) + 1) = r := by rw [← hr]; rfl
        rw [hL, hq] at HE HE1
        rw [hB, hr] at HE HE2
        rw [hL] at h5 ⊢
        rw [hB] at h6 ⊢
        rw [hq] at h4
        have hk1 : (j : Int) + 1 ≠ 0 := by omega
        have hLb : (L : Int) ≤ 274877906944 := by have : j * 1073741824 ≤ 256 * 1073741824 := Nat.mul_le_mul_right _ (by omega); omega
        have hBb : (B : Int) ≤ 256 := by omega
        have hqb : (q : Int) ≤ 1073741824 := by omega
        have i3 : (2 : Int) ≤ (j : Int) + 2 := by omega
        have i4 : (j : Int) + 2 < 65 := by omega
        have i5 : (j : Int) + 2 - 1 = (j : Int) + 1 := by omega
        clear e1 e2 hL hB hq hr h4 h5 h6 i2 hk hlt hk2
        by_cases hr0 : r = 0
        · subst hr0
          rw [Int.natCast_zero] at hrem
          rw [if_pos rfl] at HE HE2
          rw [show ((j + 2 : Nat) : Int) = (j : Int) + 2 from rfl, Int.natCast_add L q, Nat.add_zero] at HE
          go_wp2_with fail
          (with_reducible refine (HE.out _).mono ?_)
          rintro e w3 ⟨rfl, d3, rfl⟩
          go_wp2_with (at_builtin; go_must (refine appI rfl _ _ rfl w.heap.size (by rfl) (own_keep HO.out (fun g _ hg => (show Below wr.heap.size wr _ from by (repeat (first | with_reducible exact Below.refl _ _ | with_reducible refine Bs ?_ | with_reducible refine Ba ?_ | with_reducible refine Bd ?_ | with_reducible refine Bn ?_))).block g hg)) (by rfl) (Ints.new' .i64 _ 3 #[.int .i64 _] [_] _ 1 1 (by simp) (by rfl) (by rfl) (by omega) (by omega)) (by have := HNL.out; simp; omega) (by first | (simp; done) | (simp; omega)) ?_))
          intro v4 w4 o4 g4 _
          have O4 := Lib.hid (show w4.ownsRow w.heap.size 3 1 v4 (normsL.take (j + 2 + 1)).length (intF (normsL.take (j + 2 + 1))) from by rw [HN.out, HNI.out]; simpa using o4)
          have B4 := Lib.hid ((show Below w.heap.size w _ from by (repeat (first | with_reducible exact Below.refl _ _ | with_reducible refine Bs ?_ | with_reducible refine Ba ?_ | with_reducible refine Bd ?_ | with_reducible refine Bn ?_ | with_reducible refine Bt BR.out ?_))).grown g4 (by first | (simp; done) | (simp; omega)) (fun q hq => (HO.out.lt q hq).1))
          clear o4 g4
          go_wp2_with fail
          go_roundw
          case rel => exact ⟨j + 2 + 1, by go_num, by omega, by rw [show j + 2 + 1 - 2 = j + 1 by omega, HE1.out]; go_num, by rw [show j + 2 + 1 - 2 = j + 1 by omega, HE2.out]; go_num, O4.out, B4.out⟩
          case measure => simp [intOf] <;> omega
        · have hr1 : (0 : Int) < r := by omega
          rw [if_neg hr0] at HE HE2
          rw [show ((j + 2 : Nat) : Int) = (j : Int) + 2 from rfl, Int.natCast_add L q, show ((B + 1 : Nat) : Int) = (B : Int) + 1 from rfl] at HE
          go_wp2_with fail
          (with_reducible refine (HE.out _).mono ?_)
          rintro e w3 ⟨rfl, d3, rfl⟩
          go_wp2_with (at_builtin; go_must (refine appI rfl _ _ rfl w.heap.size (by rfl) (own_keep HO.out (fun g _ hg => (show Below wr.heap.size wr _ from by (repeat (first | with_reducible exact Below.refl _ _ | with_reducible refine Bs ?_ | with_reducible refine Ba ?_ | with_reducible refine Bd ?_ | with_reducible refine Bn ?_))).block g hg)) (by rfl) (Ints.new' .i64 _ 3 #[.int .i64 _] [_] _ 1 1 (by simp) (by rfl) (by rfl) (by omega) (by omega)) (by have := HNL.out; simp; omega) (by first | (simp; done) | (simp; omega)) ?_))
          intro v4 w4 o4 g4 _
          have O4 := Lib.hid (show w4.ownsRow w.heap.size 3 1 v4 (normsL.take (j + 2 + 1)).length (intF (normsL.take (j + 2 + 1))) from by rw [HN.out, HNI.out]; simpa using o4)
          have B4 := Lib.hid ((show Below w.heap.size w _ from by (repeat (first | with_reducible exact Below.refl _ _ | with_reducible refine Bs ?_ | with_reducible refine Ba ?_ | with_reducible refine Bd ?_ | with_reducible refine Bn ?_ | with_reducible refine Bt BR.out ?_))).grown g4 (by first | (simp; done) | (simp; omega)) (fun q hq => (HO.out.lt q hq).1))
          clear o4 g4
          go_wp2_with fail
          go_roundw
          case rel => exact ⟨j + 2 + 1, by go_num, by omega, by rw [show j + 2 + 1 - 2 = j + 1 by omega, HE1.out]; go_num, by rw [show j + 2 + 1 - 2 = j + 1 by omega, HE2.out]; go_num, O4.out, B4.out⟩
          case measure => simp [intOf] <;> omega
    · obtain rfl : k = 65 := by omega
      go_wp2_with fail
      go_ret
      have hfull : normsL.take 65 = normsL := List.take_of_length_le (by decide)
      have ho := HO.out
      rw [hfull] at ho
      exact ⟨_, rfl, (Ints.own (by exact ho) (by decide)).2, Fresh.own HO.out, BR.out⟩

/-- What has been moved up to a place. -/
def mvL (f k : Nat) (b : Int) (l : List Int) : List Int := l.mapIdx fun i x => if f ≤ i ∧ i < k ∧ 0 < x then x + b else x

theorem mvL_start (f : Nat) (b : Int) (l : List Int) : mvL f f b l = l := by
  apply List.ext_getElem?
  intro i
  unfold mvL
  rw [List.getElem?_mapIdx]
  cases h : l[i]? with
  | none => rfl
  | some x => rw [Option.map_some, if_neg (by omega)]

theorem mvL_end {f k : Nat} {b : Int} {l : List Int} (h : l.length ≤ k) : mvL f k b l = moveL f b l := by
  apply List.ext_getElem?
  intro i
  unfold mvL moveL
  rw [List.getElem?_mapIdx, List.getElem?_mapIdx]
  cases hi : l[i]? with
  | none => rfl
  | some x =>
    have := (List.getElem?_eq_some_iff.1 hi).1
    rw [Option.map_some, Option.map_some]
    by_cases h1 : f ≤ i ∧ 0 < x
    · rw [if_pos h1, if_pos ⟨h1.1, by omega, h1.2⟩]
    · rw [if_neg h1, if_neg (fun hh => h1 ⟨hh.1, hh.2.2⟩)]

theorem mvL_at {f k : Nat} {b x : Int} {l : List Int} (h : l[k]? = some x) : (mvL f k b l)[k]? = some x := by
  unfold mvL
  rw [List.getElem?_mapIdx, h, Option.map_some, if_neg (by omega)]

theorem mvL_no {f k : Nat} {b x : Int} {l : List Int} (h : l[k]? = some x) (hx : ¬ 0 < x) : mvL f (k + 1) b l = mvL f k b l := by
  apply List.ext_getElem?
  intro i
  unfold mvL
  rw [List.getElem?_mapIdx, List.getElem?_mapIdx]
  cases hi : l[i]? with
  | none => rfl
  | some y =>
    rw [Option.map_some, Option.map_some]
    by_cases he : i = k
    · subst he
      rw [h] at hi
      injection hi with hi
      subst hi
      rw [if_neg (fun hh => hx hh.2.2), if_neg (fun hh => hx hh.2.2)]
    · by_cases h1 : f ≤ i ∧ i < k ∧ 0 < y
      · rw [if_pos h1, if_pos ⟨h1.1, by omega, h1.2.2⟩]
      · rw [if_neg h1, if_neg (fun hh => h1 ⟨hh.1, by omega, hh.2.2⟩)]

theorem mvL_yes {f k : Nat} {b x : Int} {l : List Int} (h : l[k]? = some x) (hf : f ≤ k) (hx : 0 < x) : mvL f (k + 1) b l = (mvL f k b l).set k (x + b) := by
  have hk := (List.getElem?_eq_some_iff.1 h).1
  apply List.ext_getElem?
  intro i
  rw [List.getElem?_set]
  unfold mvL
  rw [List.getElem?_mapIdx, List.getElem?_mapIdx, List.length_mapIdx]
  by_cases he : k = i
  · subst he
    rw [if_pos rfl, if_pos hk, h, Option.map_some, if_pos ⟨hf, by omega, hx⟩]
  · rw [if_neg he]
    cases hi : l[i]? with
    | none => rfl
    | some y =>
      rw [Option.map_some, Option.map_some]
      by_cases h1 : f ≤ i ∧ i < k ∧ 0 < y
      · rw [if_pos h1, if_pos ⟨h1.1, by omega, h1.2.2⟩]
      · rw [if_neg h1, if_neg (fun hh => h1 ⟨hh.1, by omega, hh.2.2⟩)]

theorem grown_tr {w w1 w2 : World} {r : Option Nat} (h : w.grownBy w1 r) (k : w1.grownBy w2 r) : w.grownBy w2 r :=
  ⟨k.os.trans h.os, k.tape.trans h.tape, k.output.trans h.output, Nat.le_trans h.size k.size, fun b hb hn => (k.block b (Nat.lt_of_lt_of_le hb h.size) hn).trans (h.block b hb hn)⟩

theorem intF_set (l : List Int) (i : Nat) (x : Int) : intF (l.set i x) = (intF l).set i (.int .i64 x) := by simp [intF, List.map_set]

set_option maxRecDepth 100000 in
set_option maxHeartbeats 4000000 in
theorem move_any (base : Nat) (v : Value) (l : List Int) (f : Nat) (b : Int) (w : World) (hown : w.ownsRow base 3 1 v l.length (intF l)) (hf : f ≤ l.length) (hn : l.length ≤ 1000000) (hb : -1000000 ≤ b ∧ b ≤ 1000000) (hx : ∀ x ∈ l, -1000000 ≤ x ∧ x ≤ 1000000) :
    Calls Try.prog 142 #[v, .int .i64 f, .int .i64 b] w fun e w' => e = .returned (.tuple #[]) ∧ w'.ownsRow base 3 1 v l.length (intF (moveL f b l)) ∧ w.grownBy w' v.ownBlock := by
  obtain ⟨n, hln⟩ : ∃ n, l.length = n := ⟨_, rfl⟩
  have HN := Lib.hid hln
  rw [hln] at hown hf hn ⊢
  clear hln
  have HX := Lib.hid hx
  clear hx
  rcases hown.2 with ⟨rfl, h0⟩ | ⟨g, cap, cur, rfl, hbg, hrow, hc1, hcm, hsz, htk⟩
  · subst h0
    obtain rfl : f = 0 := by omega
    have HO := Lib.hid hown
    clear hown
    go_enter Try.func142, Try.ntmps142
    go_wp2_with fail
    go_loopw [6] (fun i wr => i = .int .i64 0 ∧ w = wr) (fun _ _ => 0)
    case atStart => exact ⟨rfl, rfl⟩
    case round =>
      obtain ⟨rfl, rfl⟩ := hrel
      go_wp2_with fail
      have hl0 : l = [] := List.eq_nil_of_length_eq_zero HN.out
      exact bodyPost_end (v := .tuple #[]) (by simp [results, Try.results142, go_sem]) rfl ⟨rfl, by rw [hl0] at HO ⊢; exact HO.out, grownBy_refl _ _⟩
  · have HO := Lib.hid hown
    have hgl : g < w.heap.size := (Array.getElem?_eq_some_iff.1 hrow).1
    clear hown hrow hcm hsz htk
    go_enter Try.func142, Try.ntmps142
    go_wp2_with fail
    go_loopw [6] (fun i wr => ∃ k : Nat, i = .int .i64 k ∧ f ≤ k ∧ k ≤ n ∧ wr.ownsRow base 3 1 (.slice (some ⟨g, 0, none⟩) n cap) n (intF (mvL f k b l)) ∧ w.grownBy wr (some g)) (fun i _ => n - (intOf i).toNat)
    case atStart => exact ⟨f, rfl, by omega, by omega, by rw [mvL_start]; exact HO.out, grownBy_refl w _⟩
    case round =>
      obtain ⟨k, rfl, hfk, hkn, hown, hgr⟩ := hrel
      have HOW := Lib.hid hown
      have HGR := Lib.hid hgr
      clear hown hgr
      by_cases hlt : k < n
      · obtain ⟨x, hx⟩ := getElem?_ex (l := l) (k := k) (by rw [HN.out]; exact hlt)
        have hxb := HX.out x (List.mem_of_getElem? hx)
        have c0 : wr.cell? ⟨g, k, none⟩ = some (.int .i64 x) := (HOW.out.cellAt k (by omega)).trans (by rw [intF, List.getElem?_map, mvL_at hx]; rfl)
        have f0 : wr.frozen? ⟨g, k, none⟩ = false := HOW.out.frozenAt k
        have HK := Lib.hid hx
        have i1 : (0 : Int) ≤ (k : Int) := by omega
        have i2 : (k : Int) < (n : Int) := by omega
        clear hx
        by_cases hx0 : 0 < x
        · go_wp2_with fail
          refine ⟨⟨k + 1, by go_num, by omega, by omega, ?_, ?_⟩, by simp [intOf]; omega⟩
          · rw [mvL_yes HK.out hfk hx0, intF_set]
            exact (HOW.out.stored k _).1
          · exact grown_tr HGR.out (HOW.out.stored k _).2
        · go_wp2_with fail
          refine ⟨⟨k + 1, by go_num, by omega, by omega, by rw [mvL_no HK.out hx0]; exact HOW.out, HGR.out⟩, by simp [intOf]; omega⟩
      · obtain rfl : k = n := by omega
        go_wp2_with fail
        exact bodyPost_end (v := .tuple #[]) (by simp [results, Try.results142, go_sem]) rfl ⟨rfl, by rw [← mvL_end (k := k) (by rw [HN.out]; exact Nat.le_refl _)]; exact HOW.out, HGR.out⟩
end Go.Proofs.Ytjmjnkilgoelbaa
