/-
  SchedD: Walks of state.Births and copseref28.Births.
-/
import Derived.Test.YtgobbecpnjelmaaGreatJ2a
import Derived.Test.YtgobbecpnjelmaaGreatJ2b
import Derived.Test.YtgobbecpnjelmaaGreatJ0c
import Derived.Test.YtgobbecpnjelmaaGreatJ0b
namespace Go.Proofs.YtgobbecpnjelmaaGreat
open Go.RowKit

/-- The births of the trees at a count. -/
def birthsV (B : Bool) (t s e n : Int) : List Int × Int := if rightE B [n] = 0 then (birthsL (nextV s e 0) e (upToV s e n).toNat t.toNat, 0) else ([], rightE B [n])

theorem birthsV_ok {B : Bool} {t s e n : Int} (h : rightE B [n] = 0) : birthsV B t s e n = (birthsL (nextV s e 0) e (upToV s e n).toNat t.toNat, 0) := by unfold birthsV; rw [if_pos h]

theorem birthsV_no {B : Bool} {t s e n : Int} (h : rightE B [n] ≠ 0) : birthsV B t s e n = ([], rightE B [n]) := by unfold birthsV; rw [if_neg h]

theorem own_shapeN' {w : World} {base e size n : Nat} {v : Value} {xs : List Value} (h : w.ownsRow base e size v n xs) : ∃ a c, v = .slice a n c := by
 rcases h.2 with ⟨h1, h2⟩ | ⟨g, cap, cur, h1, _⟩
 ·exact ⟨none, 0, by rw [h1, h2]⟩
 ·exact ⟨_, _, h1⟩

theorem born_start (f e : Int) (a t m : Nat) : BornTo f e a a t m (List.replicate m 0) := ⟨List.length_replicate, fun j h1 h2 => by omega⟩

theorem int_nat {z : Int} (h : 0 ≤ z) : ∃ n : Nat, z = (n : Int) := ⟨z.toNat, by omega⟩

theorem tmod_nat (k t : Nat) : ((k : Int)).tmod (t : Int) = ((k % t : Nat) : Int) := by
 rw [Int.tmod_eq_emod_of_nonneg (by omega)]
 rfl

set_option maxRecDepth 100000 in
set_option maxHeartbeats 8000000 in
theorem sbirths_any (c0 c1 c2 c3 c4 c5 c6 c7 c8 c9 c10 : Int) (n : Int) (w : World) (hw : Ok64 c7) :
  Calls Tryz.prog 14 #[.agg #[.int .i64 c0, .int .i64 c1, .int .i64 c2, .int .i64 c3, .int .i64 c4, .int .i64 c5, .int .i64 c6, .int .i64 c7, .int .i64 c8, .int .i64 c9, .int .i64 c10], .int .i64 n] w fun e w' => ∃ v, e = .returned (.tuple #[v, .int .i64 (birthsV (confB11 c0 c1 c2 c3 c4 c5 c6 c7 c8 c9 c10) c2 c3 c4 n).2]) ∧ Ints .i64 w' v (birthsV (confB11 c0 c1 c2 c3 c4 c5 c6 c7 c8 c9 c10) c2 c3 c4 n).1 ∧ Below w.heap.size w w' := by
 have HTU := hH (fun W => sTurns_any c0 c1 c2 c3 c4 c5 c6 c7 c8 c9 c10 n W hw)
 by_cases hE : rightE (confB11 c0 c1 c2 c3 c4 c5 c6 c7 c8 c9 c10) [n] = 0
 ·obtain ⟨q1, q2, q3⟩ := rightE_ok hE
  obtain ⟨_, _, b2, b3, _, b4, _⟩ := conf_bounds q1
  have HN := hH (fun W => q1 ▸ sNext_any c0 c1 c2 c3 c4 c5 c6 c7 c8 c9 c10 0 W hw)
  rw [nextT_zero] at HN
  have HV := hH (birthsV_ok (t := c2) (s := c3) (e := c4) hE)
  have hT : turnsT (confB11 c0 c1 c2 c3 c4 c5 c6 c7 c8 c9 c10) c3 c4 n = (upToV c3 c4 n, 0) := by unfold turnsT; rw [if_pos hE]
  rw [hT] at HTU
  have hU := upToV_nn (s := c3) (e := c4) (n := n) b4.1
  obtain ⟨s1, s2, s3, s4, -⟩ := nextV_spec (s := c3) (e := c4) (n := 0) b4.1
  obtain ⟨F, hF⟩ : ∃ F, nextV c3 c4 0 = F := ⟨_, rfl⟩
  rw [hF] at s2 s3 s4 HN HV
  obtain ⟨U, hU2⟩ : ∃ U, upToV c3 c4 n = U := ⟨_, rfl⟩
  rw [hU2] at hU HTU HV
  obtain ⟨tn, htn⟩ := int_nat hU.1
  obtain ⟨tt, htt⟩ := int_nat (show 0 ≤ c2 by omega)
  obtain ⟨mm, hmm⟩ : ∃ mm : Nat, min tn tt = mm := ⟨_, rfl⟩
  obtain ⟨ka, hka⟩ : ∃ ka : Nat, tn - tt = ka := ⟨_, rfl⟩
  have HV2 := hH (show birthsV (confB11 c0 c1 c2 c3 c4 c5 c6 c7 c8 c9 c10) c2 c3 c4 n = (birthsL F c4 tn tt, 0) from by rw [HV.out, htn, htt, Int.toNat_natCast, Int.toNat_natCast])
  subst htn
  have hmi : min (tn : Int) c2 = (mm : Int) := by omega
  have hkm : max 0 ((tn : Int) - c2) = (ka : Int) := by omega
  have hkw : IntKind.i64.wrap ((tn : Int) - c2) = (tn : Int) - c2 := by rw [IntKind.wrap_i64]; omega
  have htn2 : (tn : Int) ≤ 1099511627776 := by omega
  have hmm2 : mm ≤ 16 := by omega
  have hkt : ka ≤ tn := by omega
  have hc20 : ¬ c2 = 0 := by omega
  have hc21 : ¬ c2 = -1 := by omega
  have HTT := hH htt
  have HMM := hH hmm
  have HKA := hH hka
  obtain ⟨g2, g2'⟩ := b2
  clear hE q1 hT hU hF hU2 HV s1 hw htt hmm hka
  go_enter Tryz.func14, Tryz.ntmps14
  go_wp2_with fail
  (with_reducible refine (HTU.out _).mono ?_); rintro e w1 ⟨rfl, b1⟩; have s1 : w.heap.size + 1 ≤ w1.heap.size := sz b1; have B1 := hJ w b1; obtain ⟨c1_0, c1_1, c1_2, c1_3, c1_4, c1_5, c1_6, c1_7, c1_8, c1_9, c1_10⟩ := k11 (w.heap.size) (.int .i64 c0) (.int .i64 c1) (.int .i64 c2) (.int .i64 c3) (.int .i64 c4) (.int .i64 c5) (.int .i64 c6) (.int .i64 c7) (.int .i64 c8) (.int .i64 c9) (.int .i64 c10) b1 aJ; obtain ⟨l1_0, n1_0, m1_0⟩ := lnm (show w.heap.size < w1.heap.size by omega); clear b1
  go_wp2_with fail
  (with_reducible refine (HN.out _).mono ?_); rintro e w2 ⟨rfl, b2⟩; have s2 : w1.heap.size ≤ w2.heap.size := sz b2; have B2 := bJ B1.out b2; obtain ⟨c2_0, c2_1, c2_2, c2_3, c2_4, c2_5, c2_6, c2_7, c2_8, c2_9, c2_10⟩ := k11 (w.heap.size) (.int .i64 c0) (.int .i64 c1) (.int .i64 c2) (.int .i64 c3) (.int .i64 c4) (.int .i64 c5) (.int .i64 c6) (.int .i64 c7) (.int .i64 c8) (.int .i64 c9) (.int .i64 c10) b2 aJ; obtain ⟨l2_0, n2_0, m2_0⟩ := lnm (show w.heap.size < w2.heap.size by omega); clear b2
  go_wp2_with (at_make; go_must (refine mkfull rfl _ _ 36 rfl Tryz.underlying36 eiInt w2.heap.size mm (by rfl) (by rfl) (by first | rfl | exact hmi) (by first | rfl | exact hmi) (by omega) (Nat.le_refl _) ?_))
  intro w3 o3 b3' g3
  rw [show (madeCells #[Value.int .i64 0] mm).toList = (List.replicate mm (0 : Int)).map (Value.int .i64) from by have h := made_ints .i64 mm; rw [Nat.mul_one] at h; exact h] at o3
  have y3 := b3'.size
  have hl3 : w2.heap.size < w3.heap.size := own_lt o3 rfl
  have B3 := hH (Bc (B := w.heap.size) (a := w) (bx B2.out) b3')
  obtain ⟨d0, d1, d2, d3, d4, d5, d6, d7, d8, d9, d10⟩ := k11 (w.heap.size) (.int .i64 c0) (.int .i64 c1) (.int .i64 c2) (.int .i64 c3) (.int .i64 c4) (.int .i64 c5) (.int .i64 c6) (.int .i64 c7) (.int .i64 c8) (.int .i64 c9) (.int .i64 c10) b3' aJ
  have HO := hH o3
  clear o3 b3' g3
  go_wp2_with fail
  go_loopw [11] (fun kv wr => ∃ (k : Nat) (acc : List Int), kv = .int .i64 (k : Int) ∧ ka ≤ k ∧ k ≤ tn ∧ BornTo F c4 ka k tt mm acc ∧ wr.ownsRow w2.heap.size 3 1 (.slice (some ⟨w2.heap.size, 0, none⟩) mm mm) mm (acc.map (Value.int .i64)) ∧ Below w.heap.size w wr ∧ w2.heap.size < wr.heap.size ∧ (wr.cell? ⟨w.heap.size, 0, none⟩ = some (.int .i64 c0) ∧ wr.cell? ⟨w.heap.size, 1, none⟩ = some (.int .i64 c1) ∧ wr.cell? ⟨w.heap.size, 2, none⟩ = some (.int .i64 c2) ∧ wr.cell? ⟨w.heap.size, 3, none⟩ = some (.int .i64 c3) ∧ wr.cell? ⟨w.heap.size, 4, none⟩ = some (.int .i64 c4) ∧ wr.cell? ⟨w.heap.size, 5, none⟩ = some (.int .i64 c5) ∧ wr.cell? ⟨w.heap.size, 6, none⟩ = some (.int .i64 c6) ∧ wr.cell? ⟨w.heap.size, 7, none⟩ = some (.int .i64 c7) ∧ wr.cell? ⟨w.heap.size, 8, none⟩ = some (.int .i64 c8) ∧ wr.cell? ⟨w.heap.size, 9, none⟩ = some (.int .i64 c9) ∧ wr.cell? ⟨w.heap.size, 10, none⟩ = some (.int .i64 c10))) (fun kv _ => tn - (intOf kv).toNat)
  case atStart => exact ⟨ka, _, by go_num, Nat.le_refl _, hkt, born_start _ _ _ _ _, HO.out, B3.out, hl3, by and_intros <;> with_reducible assumption⟩
  case round =>
   obtain ⟨k, acc, rfl, hk1, hk2, hbo, hown, hbi, hsz, k20, k21, k22, k23, k24, k25, k26, k27, k28, k29, k30⟩ := hrel
   rename World => wi
   have BI := hH hbi
   have HB := hH hbo
   have HW := hH hown
   by_cases hlt : k < tn
   ·obtain ⟨r, hr⟩ : ∃ r : Nat, k % tt = r := ⟨_, rfl⟩
    have htm : ((k : Int)).tmod c2 = (r : Int) := by rw [HTT.out, tmod_nat, hr]
    have hrm : r < mm := by
     have h1 : tt ≤ 16 := by have := HTT.out; omega
     have h2 : 0 < tt := by have := HTT.out; omega
     have h3 := Nat.mod_lt k h2
     have h4 := Nat.mod_le k tt
     have := HMM.out
     omega
    have hcr := hown.cellAt r (by omega)
    obtain ⟨x, hx⟩ := getElem?_ex (l := acc) (k := r) (by rw [hbo.1]; exact hrm)
    rw [List.getElem?_map, hx] at hcr
    have hcr2 : wi.cell? ⟨w2.heap.size, r, none⟩ = some (.int .i64 x) := hcr
    have hfr : wi.frozen? ⟨w2.heap.size, r, none⟩ = false := by
     obtain ⟨_, _, _, _, hrow, _⟩ := own_rowAt hown
     exact hrow.frozen _
    have p1 : 0 ≤ (k : Int) * c4 := Int.mul_nonneg (by omega) (by omega)
    have p2 : (k : Int) * c4 ≤ 1099511627776 * 256 := Int.mul_le_mul (by omega) b4.2 (by omega) (by omega)
    have HS := hH (hbo.next hk1 (by have := HKA.out; have := HTT.out; omega) (by rw [hr]; exact hrm))
    rw [hr] at HS
    obtain ⟨P, hP⟩ : ∃ P, (k : Int) * c4 = P := ⟨_, rfl⟩
    have kw : IntKind.i64.wrap ((k : Int) * c4) = P := by rw [hP, IntKind.wrap_i64]; omega
    rw [hP] at p1 p2 HS
    have kw2 : IntKind.i64.wrap (F + P) = F + P := by rw [IntKind.wrap_i64]; omega
    have HO2 := hH (own_setAt hown r (.int .i64 (F + P)))
    have i1 : (k : Int) < (tn : Int) := by omega
    have i2 : (0 : Int) ≤ (r : Int) := by omega
    have i3 : (r : Int) < (mm : Int) := by omega
    obtain ⟨lz1, lz2, lz3⟩ := lnm (show w.heap.size < w2.heap.size by omega)
    clear hbi hbo hown hr hcr hx hP hlt
    go_wp2_with fail
    refine wp_region_held_drew (S := fun w' => w'.cell? ⟨w.heap.size, 2, none⟩ = some (.int .i64 c2) ∧ w'.cell? ⟨w.heap.size, 4, none⟩ = some (.int .i64 c4)) rJ kJ (fun hHeld => ?_); refine lJ 0 hHeld ?_; refine lJ 1 hHeld ?_; refine lJ 2 hHeld ?_; refine lJ 3 hHeld ?_; refine lJ 4 hHeld ?_; refine lJ 5 hHeld ?_; refine lJ 6 hHeld ?_; refine lJ 7 hHeld ?_; refine lJ 8 hHeld ?_; refine lJ 9 hHeld ?_; refine lJ 10 hHeld ?_; refine lJ 11 hHeld ?_; refine lexHv 12 rfl ?_ rJ; (intro K hK); (go_simp); refine hO hK ?_; (clear hHeld hK K); (intro hHeld); (try simp only [Act.put]); refine wpAnyH_done rJ ?_ _
    go_wp2_with fail
    go_roundw
    case rel => exact ⟨k + 1, acc.set r (F + P), by go_num, by omega, by omega, HS.out, (by have h := own_drew HO2.out; rw [List.map_set]; exact h), bx BI.out, by simpa using hsz, by and_intros <;> go_simp⟩
    case measure => simp [intOf] <;> omega
   ·obtain rfl : k = tn := by omega
    have hfin : acc = birthsL F c4 k tt := BornTo.fin (by have := HTT.out; omega) (by have := HB.out; rw [← HKA.out, ← HMM.out] at this; exact this)
    have HI := hH (Ints.own hown (by rw [HB.out.1]; omega)).2
    rw [hfin] at HI
    clear hbi hbo hown hlt hfin
    go_wp2_with fail
    exact bodyPost_ret (v := .tuple #[.slice (some ⟨w2.heap.size, 0, none⟩) mm mm, .int .i64 0]) (by simp [results, Tryz.results14, go_sem, *]) rfl (by rw [HV2.out]; exact ⟨_, rfl, HI.out, bx BI.out⟩)
 ·obtain ⟨E, hE2⟩ : ∃ E, rightE (confB11 c0 c1 c2 c3 c4 c5 c6 c7 c8 c9 c10) [n] = E := ⟨_, rfl⟩
  have HV := hH (birthsV_no (t := c2) (s := c3) (e := c4) hE)
  have hT : turnsT (confB11 c0 c1 c2 c3 c4 c5 c6 c7 c8 c9 c10) c3 c4 n = (0, E) := by unfold turnsT; rw [if_neg hE, hE2]
  rw [hT] at HTU
  rw [hE2] at HV hE
  have je : (E != 0) = true := by simp [hE]
  clear hE2 hE hT
  go_enter Tryz.func14, Tryz.ntmps14
  go_wp2_with fail
  (with_reducible refine (HTU.out _).mono ?_); rintro e w1 ⟨rfl, b1⟩; have s1 : w.heap.size + 1 ≤ w1.heap.size := sz b1; have B1 := hJ w b1; clear b1
  go_wp2_with fail
  exact bodyPost_ret (v := .tuple #[.slice none 0 0, .int .i64 E]) (by simp [results, Tryz.results14, go_sem, *]) rfl (by rw [HV.out]; exact ⟨_, rfl, ints_nil _ _ _ _ (by omega), bx B1.out⟩)

theorem birthsL_at {f e : Int} {T t i : Nat} (hi : i < min T t) : (birthsL f e T t)[i]? = some (f + ((i + (T - 1 - i) / t * t : Nat) : Int) * e) := by
 unfold birthsL
 rw [List.getElem?_map, List.getElem?_range hi]
 rfl

set_option maxRecDepth 100000 in
set_option maxHeartbeats 8000000 in
theorem rbirths_any (c0 c1 c2 c3 c4 c5 c6 c7 c8 c9 c10 : Int) (n : Int) (w : World) :
  Calls Tryz.prog 15 #[.agg #[.int .i64 c0, .int .i64 c1, .int .i64 c2, .int .i64 c3, .int .i64 c4, .int .i64 c5, .int .i64 c6, .int .i64 c7, .int .i64 c8, .int .i64 c9, .int .i64 c10], .int .i64 n] w fun e w' => ∃ v, e = .returned (.tuple #[v, .int .i64 (birthsV (confB11 c0 c1 c2 c3 c4 c5 c6 c7 c8 c9 c10) c2 c3 c4 n).2]) ∧ Ints .i64 w' v (birthsV (confB11 c0 c1 c2 c3 c4 c5 c6 c7 c8 c9 c10) c2 c3 c4 n).1 ∧ Below w.heap.size w w' := by
 have HTU := hH (fun W => rTurns_any c0 c1 c2 c3 c4 c5 c6 c7 c8 c9 c10 n W)
 by_cases hE : rightE (confB11 c0 c1 c2 c3 c4 c5 c6 c7 c8 c9 c10) [n] = 0
 ·obtain ⟨q1, q2, q3⟩ := rightE_ok hE
  obtain ⟨_, _, b2, b3, _, b4, _⟩ := conf_bounds q1
  have HV := hH (birthsV_ok (t := c2) (s := c3) (e := c4) hE)
  have hT : turnsT (confB11 c0 c1 c2 c3 c4 c5 c6 c7 c8 c9 c10) c3 c4 n = (upToV c3 c4 n, 0) := by unfold turnsT; rw [if_pos hE]
  rw [hT] at HTU
  have hU := upToV_nn (s := c3) (e := c4) (n := n) b4.1
  have HTN := hH (fun W (k : Nat) (hk : (k : Int) ≤ 1099511627776) => rturn28_any c0 c1 c2 c3 c4 c5 c6 c7 c8 c9 c10 k W q1 hk)
  obtain ⟨F, hF⟩ : ∃ F, nextV c3 c4 0 = F := ⟨_, rfl⟩
  rw [hF] at HTN HV
  obtain ⟨U, hU2⟩ : ∃ U, upToV c3 c4 n = U := ⟨_, rfl⟩
  rw [hU2] at hU HTU HV
  obtain ⟨tn, htn⟩ := int_nat hU.1
  obtain ⟨tt, htt⟩ := int_nat (show 0 ≤ c2 by omega)
  have HV2 := hH (show birthsV (confB11 c0 c1 c2 c3 c4 c5 c6 c7 c8 c9 c10) c2 c3 c4 n = (birthsL F c4 tn tt, 0) from by rw [HV.out, htn, htt, Int.toNat_natCast, Int.toNat_natCast])
  subst htn
  obtain ⟨L, hL⟩ : ∃ L, birthsL F c4 tn tt = L := ⟨_, rfl⟩
  have HLL := hH hL
  rw [hL] at HV2
  have hLl : L.length = min tn tt := by rw [← hL, birthsL_len]
  have HLN := hH hLl
  have htn2 : (tn : Int) ≤ 1099511627776 := by omega
  have htt2 : tt ≤ 16 := by omega
  have hc20 : ¬ c2 = 0 := by omega
  have hc21 : ¬ c2 = -1 := by omega
  have HTT := hH htt
  obtain ⟨g2, g2'⟩ := b2
  clear hE q1 hT hU hF hU2 HV htt hL hLl
  go_enter Tryz.func15, Tryz.ntmps15
  go_wp2_with fail
  (with_reducible refine (HTU.out _).mono ?_); rintro e w1 ⟨rfl, b1⟩; have s1 : w.heap.size + 1 ≤ w1.heap.size := sz b1; have B1 := hJ w b1; obtain ⟨c1_0, c1_1, c1_2, c1_3, c1_4, c1_5, c1_6, c1_7, c1_8, c1_9, c1_10⟩ := k11 (w.heap.size) (.int .i64 c0) (.int .i64 c1) (.int .i64 c2) (.int .i64 c3) (.int .i64 c4) (.int .i64 c5) (.int .i64 c6) (.int .i64 c7) (.int .i64 c8) (.int .i64 c9) (.int .i64 c10) b1 aJ; obtain ⟨l1_0, n1_0, m1_0⟩ := lnm (show w.heap.size < w1.heap.size by omega); clear b1
  go_wp2_with fail
  go_loopw [8, 9] (fun ov iv wr => ∃ (i : Nat) (acc : List Int), iv = .int .i64 (i : Int) ∧ i ≤ L.length ∧ L.take i = acc ∧ acc.length = i ∧ wr.ownsRow w1.heap.size 3 1 ov acc.length (acc.map (Value.int .i64)) ∧ Below w.heap.size w wr ∧ w1.heap.size ≤ wr.heap.size ∧ (wr.cell? ⟨w.heap.size, 0, none⟩ = some (.int .i64 c0) ∧ wr.cell? ⟨w.heap.size, 1, none⟩ = some (.int .i64 c1) ∧ wr.cell? ⟨w.heap.size, 2, none⟩ = some (.int .i64 c2) ∧ wr.cell? ⟨w.heap.size, 3, none⟩ = some (.int .i64 c3) ∧ wr.cell? ⟨w.heap.size, 4, none⟩ = some (.int .i64 c4) ∧ wr.cell? ⟨w.heap.size, 5, none⟩ = some (.int .i64 c5) ∧ wr.cell? ⟨w.heap.size, 6, none⟩ = some (.int .i64 c6) ∧ wr.cell? ⟨w.heap.size, 7, none⟩ = some (.int .i64 c7) ∧ wr.cell? ⟨w.heap.size, 8, none⟩ = some (.int .i64 c8) ∧ wr.cell? ⟨w.heap.size, 9, none⟩ = some (.int .i64 c9) ∧ wr.cell? ⟨w.heap.size, 10, none⟩ = some (.int .i64 c10))) (fun _ iv _ => L.length - (intOf iv).toNat)
  case atStart => exact ⟨0, [], rfl, by omega, rfl, rfl, World.ownsRow_nil _ _ _ _, B1.out, Nat.le_refl _, by and_intros <;> with_reducible assumption⟩
  case round =>
   obtain ⟨i, acc, rfl, hi, htk, hal, hown, hbi, hsz, k20, k21, k22, k23, k24, k25, k26, k27, k28, k29, k30⟩ := hrel
   rename World => wi
   have BI := hH hbi
   have HO := hH hown
   have HTK := hH htk
   have HAL := hH hal
   obtain ⟨ca, cc, rfl⟩ := own_shapeN' hown
   by_cases hlt : i < L.length
   ·obtain ⟨x, hx⟩ := getElem?_ex hlt
    have hx2 := birthsL_at (f := F) (e := c4) (T := tn) (t := tt) (i := i) (by have := HLN.out; omega)
    rw [HLL.out, hx] at hx2
    injection hx2 with hx2
    have HTK2 := hH (show L.take (i + 1) = acc ++ [x] from by rw [take_snoc' hx, HTK.out])
    obtain ⟨d, hd⟩ : ∃ d : Nat, tn - 1 - i = d := ⟨_, rfl⟩
    obtain ⟨q, hq⟩ : ∃ q : Nat, d / tt = q := ⟨_, rfl⟩
    obtain ⟨m, hm⟩ : ∃ m : Nat, q * tt = m := ⟨_, rfl⟩
    have hin : i < tn ∧ i < tt := by have := HLN.out; omega
    have hmd : m ≤ d := by rw [← hm, ← hq]; exact Nat.div_mul_le_self _ _
    have hqd : q ≤ d := by rw [← hq]; exact Nat.div_le_self _ _
    rw [hd, hq, hm] at hx2
    have e1 : (tn : Int) - 1 - (i : Int) = (d : Int) := by omega
    have e2 : ((d : Int)).tdiv c2 = (q : Int) := by rw [HTT.out, Int.tdiv_eq_ediv_of_nonneg (by omega), ← hq]; rfl
    have e3 : IntKind.i64.wrap ((q : Int) * c2) = (m : Int) := by rw [HTT.out, ← Int.natCast_mul, hm, IntKind.wrap_i64]; omega
    obtain ⟨kk, hkk⟩ : ∃ kk : Nat, i + m = kk := ⟨_, rfl⟩
    have e4 : (i : Int) + (m : Int) = (kk : Int) := by omega
    have HTN2 := hH (fun W => (show F + (kk : Int) * c4 = x from by rw [← hkk]; exact hx2.symm) ▸ HTN.out W kk (by omega))
    have e5 : IntKind.i64.wrap ((tn : Int) - 1) = (tn : Int) - 1 := by rw [IntKind.wrap_i64]; omega
    have e6 : IntKind.i64.wrap (d : Int) = (d : Int) := by rw [IntKind.wrap_i64]; omega
    have e7 : IntKind.i64.wrap (q : Int) = (q : Int) := by rw [IntKind.wrap_i64]; omega
    have e8 : IntKind.i64.wrap (kk : Int) = (kk : Int) := by rw [IntKind.wrap_i64]; omega
    have i1 : (i : Int) < (tn : Int) := by omega
    have i2 : (i : Int) < c2 := by have := HTT.out; omega
    have i3 : (d : Int) ≤ 1099511627776 := by omega
    have i4 : (kk : Int) ≤ 1099511627776 := by omega
    have i5 : (i : Int) ≤ 16 := by omega
    have i6 : (m : Int) ≤ 1099511627776 := by omega
    clear hbi hown htk hal hx hx2 hd hq hm hin hmd hqd hkk
    go_wp2_with fail
    refine wp_region_held_drew (S := fun w' => w'.cell? ⟨w.heap.size, 0, none⟩ = some (.int .i64 c0) ∧ w'.cell? ⟨w.heap.size, 1, none⟩ = some (.int .i64 c1) ∧ w'.cell? ⟨w.heap.size, 2, none⟩ = some (.int .i64 c2) ∧ w'.cell? ⟨w.heap.size, 3, none⟩ = some (.int .i64 c3) ∧ w'.cell? ⟨w.heap.size, 4, none⟩ = some (.int .i64 c4) ∧ w'.cell? ⟨w.heap.size, 5, none⟩ = some (.int .i64 c5) ∧ w'.cell? ⟨w.heap.size, 6, none⟩ = some (.int .i64 c6) ∧ w'.cell? ⟨w.heap.size, 7, none⟩ = some (.int .i64 c7) ∧ w'.cell? ⟨w.heap.size, 8, none⟩ = some (.int .i64 c8) ∧ w'.cell? ⟨w.heap.size, 9, none⟩ = some (.int .i64 c9) ∧ w'.cell? ⟨w.heap.size, 10, none⟩ = some (.int .i64 c10)) rJ kJ (fun hHeld => ?_); refine lJ 0 hHeld ?_; refine lJ 1 hHeld ?_; refine lJ 2 hHeld ?_; refine lJ 3 hHeld ?_; refine lJ 4 hHeld ?_; refine lJ 5 hHeld ?_; refine lJ 6 hHeld ?_; refine lJ 7 hHeld ?_; refine lJ 8 hHeld ?_; refine lJ 9 hHeld ?_; refine lJ 10 hHeld ?_; refine lJ 11 hHeld ?_; refine lJ 12 hHeld ?_; refine lJ 13 hHeld ?_; refine lexHv 14 rfl ?_ rJ; (intro K hK); (go_simp; go_at_call 48; (with_reducible refine (HTN2.out _).mono ?_); rintro e w3 ⟨rfl, b3⟩; have s3 : wi.heap.size ≤ w3.heap.size := sz b3; have B3 := hH (Bc (B := w.heap.size) (a := w) (bx BI.out) b3); obtain ⟨c3_0, c3_1, c3_2, c3_3, c3_4, c3_5, c3_6, c3_7, c3_8, c3_9, c3_10⟩ := k11 (w.heap.size) (.int .i64 c0) (.int .i64 c1) (.int .i64 c2) (.int .i64 c3) (.int .i64 c4) (.int .i64 c5) (.int .i64 c6) (.int .i64 c7) (.int .i64 c8) (.int .i64 c9) (.int .i64 c10) b3 aJ; obtain ⟨l3_0, n3_0, m3_0⟩ := lnm (show w.heap.size < w3.heap.size by omega); have HO := hH (own_keep (by (repeat (first | with_reducible exact HO.out | with_reducible refine own_set ?_ mJ | with_reducible refine own_drew ?_ | with_reducible refine World.ownsRow.alloc ?_ _ | exact HO.out))) (fun g _ hg => b3.block g hg)); clear b3; (try go_wp2_with fail)); clear hHeld; refine pJ hK fun hHeld => ?_; clear hK K; refine lexHv 15 rfl ?_ rJ; (intro K hK); (go_simp); clear hHeld; refine pJ hK fun hHeld => ?_; clear hK K; refine lexHv 16 rfl ?_ rJ; (intro K hK); ((refine appInts_step rfl _ _ 36 rfl Tryz.underlying36 eiInt w1.heap.size (by rfl) (show World.ownsRow _ w1.heap.size 3 1 (.slice ca acc.length cc) acc.length (acc.map (Value.int .i64)) from by (repeat (first | with_reducible exact HO.out | with_reducible refine own_set ?_ mJ | with_reducible refine own_drew ?_ | with_reducible refine World.ownsRow.alloc ?_ _ | exact HO.out))) (by rfl) (int1 x w3 3 w3.heap.size rfl) (by have := HAL.out; simp; omega) (by first | omega | (simp; omega)) ?_); (intro v4 w4 o4 b4 _); (have y4 := b4.size); (simp only [World.size_alloc] at y4); (have B4 := bJ B3.out b4); (obtain ⟨c4_0, c4_1, c4_2, c4_3, c4_4, c4_5, c4_6, c4_7, c4_8, c4_9, c4_10⟩ := k11 (w.heap.size) (.int .i64 c0) (.int .i64 c1) (.int .i64 c2) (.int .i64 c3) (.int .i64 c4) (.int .i64 c5) (.int .i64 c6) (.int .i64 c7) (.int .i64 c8) (.int .i64 c9) (.int .i64 c10) b4 aJ); (have HO4 := hH o4); (clear o4 b4)); clear hHeld; refine pJ hK fun hHeld => ?_; clear hK K; refine lJ 17 hHeld ?_; refine wpAnyH_done rJ ?_ _
    go_wp2_with fail
    go_roundw
    case rel => exact ⟨i + 1, acc ++ [x], by go_num, by omega, HTK2.out, by rw [List.length_append, HAL.out]; rfl, (by have h := HO4.out; rw [List.length_append, List.map_append]; exact h), B4.out, by omega, by and_intros <;> with_reducible assumption⟩
    case measure => simp [intOf] <;> omega
   ·obtain rfl : i = L.length := by omega
    have HI := hH (Ints.own hown (by have := HLN.out; omega)).2
    have hacc : L = acc := by have := HTK.out; rw [List.take_length] at this; exact this
    have hend : ¬ (L.length : Int) < c2 ∨ ((L.length : Int) < c2 ∧ ¬ (L.length : Int) < (tn : Int)) := by have := HLN.out; have := HTT.out; omega
    rw [hacc] at HV2
    clear hbi hown htk hal hacc
    rcases hend with h1 | ⟨h1, h2⟩
    ·go_wp2_with fail
     exact bodyPost_ret (v := .tuple #[.slice ca acc.length cc, .int .i64 0]) (by simp [results, Tryz.results15, go_sem, *]) rfl (by rw [HV2.out]; exact ⟨_, rfl, HI.out, bx BI.out⟩)
    ·go_wp2_with fail
     exact bodyPost_ret (v := .tuple #[.slice ca acc.length cc, .int .i64 0]) (by simp [results, Tryz.results15, go_sem, *]) rfl (by rw [HV2.out]; exact ⟨_, rfl, HI.out, bx BI.out⟩)
 ·obtain ⟨E, hE2⟩ : ∃ E, rightE (confB11 c0 c1 c2 c3 c4 c5 c6 c7 c8 c9 c10) [n] = E := ⟨_, rfl⟩
  have HV := hH (birthsV_no (t := c2) (s := c3) (e := c4) hE)
  have hT : turnsT (confB11 c0 c1 c2 c3 c4 c5 c6 c7 c8 c9 c10) c3 c4 n = (0, E) := by unfold turnsT; rw [if_neg hE, hE2]
  rw [hT] at HTU
  rw [hE2] at HV hE
  have je : (E != 0) = true := by simp [hE]
  clear hE2 hE hT
  go_enter Tryz.func15, Tryz.ntmps15
  go_wp2_with fail
  (with_reducible refine (HTU.out _).mono ?_); rintro e w1 ⟨rfl, b1⟩; have s1 : w.heap.size + 1 ≤ w1.heap.size := sz b1; have B1 := hJ w b1; clear b1
  go_wp2_with fail
  exact bodyPost_ret (v := .tuple #[.slice none 0 0, .int .i64 E]) (by simp [results, Tryz.results15, go_sem, *]) rfl (by rw [HV.out]; exact ⟨_, rfl, ints_nil _ _ _ _ (by omega), bx B1.out⟩)
end Go.Proofs.YtgobbecpnjelmaaGreat
