/-
  Laws14c: The walk of ForestScores.
-/
import Derived.Test.YtdbonlpkmncggaaKLaws14a
import Derived.Test.YtdbonlpkmncggaaJ2a
namespace Go.Proofs.Ytdbonlpkmncggaa
open Go.RowKit

def loT (p : TreeP × Int) : Int := (lenL p.1).foldl min 4611686018427387904
def hiT (p : TreeP × Int) : Int := (lenL p.1).foldl max 0

theorem sumI_le {α : Type} {f g : α → Int} : ∀ (l : List α), (∀ p ∈ l, f p ≤ g p) → sumI (l.map f) ≤ sumI (l.map g)
  | [], _ => Int.le_refl _
  | p :: l, h => by
    have h1 := h p (by simp)
    have h2 := sumI_le l (fun q hq => h q (by simp [hq]))
    show f p + sumI (l.map f) ≤ g p + sumI (l.map g)
    omega

theorem ends_bds {f : List (TreeP × Int)} (hF : isF f = true) (k : Nat) : 0 ≤ sumI ((f.take k).map loT) ∧ sumI ((f.take k).map loT) ≤ 8899172237312 ∧ 0 ≤ sumI ((f.take k).map hiT) ∧ sumI ((f.take k).map hiT) ≤ 8899172237312 := by
  have hm : ∀ p ∈ f.take k, IsTree p.1 := fun p hp => by
    obtain ⟨i, hi⟩ := List.getElem?_of_mem (List.mem_of_mem_take hp)
    exact treeB_true.1 (isF_at hF hi).2.1
  have hl := isF_len hF
  have h1 := sumI_bd (l := (f.take k).map loT) (b := 556198264832) (by
    intro y hy
    obtain ⟨p, hp, rfl⟩ := List.mem_map.1 hy
    have := ends_bd (hm p hp)
    exact ⟨this.1, this.2.1⟩)
  have h2 := sumI_bd (l := (f.take k).map hiT) (b := 556198264832) (by
    intro y hy
    obtain ⟨p, hp, rfl⟩ := List.mem_map.1 hy
    have := ends_bd (hm p hp)
    exact ⟨this.2.2.1, this.2.2.2⟩)
  rw [List.length_map, List.length_take] at h1 h2
  omega

theorem scores_between {f : List (TreeP × Int)} {x : List Int} (hE : askE f x = 0) :
    0 ≤ sumI (f.map loT) * scQ f x ∧ sumI (f.map loT) * scQ f x ≤ scP f x * f.length ∧ scP f x * f.length ≤ sumI (f.map hiT) * scQ f x ∧ sumI (f.map hiT) * scQ f x ≤ 142386755796992 := by
  obtain ⟨hF, h1, hV⟩ := askE_ok hE
  have h16 := isF_len hF
  obtain ⟨e1, e2⟩ := scP_yes hE
  have hb := ends_bds hF f.length
  rw [List.take_length] at hb
  have hS : sumV (f.map (·.1)) x = sumI (f.map fun p => lenV p.1 x) := by unfold sumV; rw [List.map_map]; rfl
  have hlo : sumI (f.map loT) ≤ sumV (f.map (·.1)) x := by
    rw [hS]
    refine sumI_le f fun p hp => ?_
    obtain ⟨i, hi⟩ := List.getElem?_of_mem hp
    exact lo_le (lenV_mem x (treeB_true.1 (isF_at hF hi).2.1))
  have hhi : sumV (f.map (·.1)) x ≤ sumI (f.map hiT) := by
    rw [hS]
    refine sumI_le f fun p hp => ?_
    obtain ⟨i, hi⟩ := List.getElem?_of_mem hp
    exact le_hi (lenV_mem x (treeB_true.1 (isF_at hF hi).2.1))
  have hsv := sumV_small (x := x) (isF_all hF) (by rw [List.length_map]; exact h16)
  generalize sumV (f.map (·.1)) x = S at *
  generalize sumI (f.map loT) = LO at *
  generalize sumI (f.map hiT) = HI at *
  obtain ⟨n, hn⟩ : ∃ n, f.length = n := ⟨_, rfl⟩
  rw [hn] at h1 h16 e1 e2 ⊢
  have d1 : gcdZ S n ∣ S := by unfold gcdZ; exact Int.ofNat_dvd_left.2 (Nat.gcd_dvd_left _ _)
  have d2 : gcdZ S n ∣ (n : Int) := by unfold gcdZ; exact Int.ofNat_dvd_left.2 (Nat.gcd_dvd_right _ _)
  have hg : 1 ≤ gcdZ S n := by
    unfold gcdZ
    have := Nat.gcd_pos_of_pos_right S.natAbs (n := (n : Int).natAbs) (by omega)
    omega
  have p1 := Int.tdiv_mul_cancel d1
  have p2 := Int.tdiv_mul_cancel d2
  have q2 := tdiv_bd (p := (n : Int)) (g := gcdZ S n) (by omega) hg
  rw [← e1] at p1
  rw [← e2] at p2 q2
  generalize scP f x = P at *
  generalize scQ f x = Q at *
  generalize gcdZ S n = G at *
  have hPn : P * (n : Int) = S * Q := by rw [← p2, ← p1, Int.mul_comm Q G, ← Int.mul_assoc]
  rw [hPn]
  refine ⟨Int.mul_nonneg hb.1 q2.1, Int.mul_le_mul_of_nonneg_right hlo q2.1, Int.mul_le_mul_of_nonneg_right hhi q2.1, ?_⟩
  calc HI * Q ≤ 8899172237312 * Q := Int.mul_le_mul_of_nonneg_right hb.2.2.2 q2.1
    _ ≤ 8899172237312 * 16 := Int.mul_le_mul_of_nonneg_left (by omega) (by omega)
    _ = 142386755796992 := by decide

set_option maxRecDepth 100000 in
set_option maxHeartbeats 8000000 in
theorem forestScores_walk {w : World} (v : Value) (f : List (TreeP × Int)) (hv : ArgGrowns w v f) (v2 : Value) (x : List Int) (hx : ArgInts .i64 w v2 x) :
    Calls Try.prog 5 #[v, v2] w fun e w' => e = .returned (.bool true) ∧ Below w.heap.size w w' := by
  have HM := Lib.hid (fun W (hb : Below w.heap.size w W) => rmuch14_any v f W (hv.below hb))
  have HTT := Lib.hid (fun (h : muchG f = false) => hv.growns h)
  have HAX := Lib.hid hx
  obtain ⟨ad, cc, rfl, hd1, hd2, _⟩ := hv
  obtain ⟨ax, cx, rfl, hc1, hc2, _⟩ := hx
  obtain ⟨n, hn⟩ : ∃ n, f.length = n := ⟨_, rfl⟩
  obtain ⟨m, hm⟩ : ∃ m, x.length = m := ⟨_, rfl⟩
  have HN := Lib.hid hn
  have HML := Lib.hid hm
  rw [hn] at HM HTT hd1 ⊢
  rw [hm] at HAX hc1 ⊢
  have hmb : (m : Int) ≤ 9223372036854775807 := by omega
  obtain ⟨M, hM⟩ : ∃ M, muchG f = M := ⟨_, rfl⟩
  rw [hM] at HM HTT
  have HMM := Lib.hid hM
  clear hM hn hm
  cases M with
  | true =>
    clear HTT
    go_enter Try.func5, Try.ntmps5
    go_wp2_with fail
    (with_reducible refine (HM.out _ (by (repeat (first | with_reducible exact Below.refl _ _ | with_reducible refine Bs ?_ | with_reducible refine Ba ?_ | with_reducible refine Bd ?_ | with_reducible refine Bn ?_)))).mono ?_)
    rintro e w1 ⟨rfl, b1⟩
    have B1 := Lib.hid b1
    clear b1
    go_wp2_with fail
    (with_reducible refine (lives14_any _).mono ?_)
    rintro e w2 ⟨rfl, b2⟩
    have B2 := Lib.hid (show Below w.heap.size w w2 from B1.out.trans (b2.mono B1.out.size))
    clear b2
    go_wp2_with fail
    go_ret
    exact ⟨rfl, B2.out⟩
  | false =>
    by_cases h20 : 20 < m
    · have h21 : (20 : Int) < m := by omega
      clear HTT
      go_enter Try.func5, Try.ntmps5
      go_wp2_with fail
      (with_reducible refine (HM.out _ (by (repeat (first | with_reducible exact Below.refl _ _ | with_reducible refine Bs ?_ | with_reducible refine Ba ?_ | with_reducible refine Bd ?_ | with_reducible refine Bn ?_)))).mono ?_)
      rintro e w1 ⟨rfl, b1⟩
      have B1 := Lib.hid b1
      clear b1
      go_wp2_with fail
      (with_reducible refine (lives14_any _).mono ?_)
      rintro e w2 ⟨rfl, b2⟩
      have B2 := Lib.hid (show Below w.heap.size w w2 from B1.out.trans (b2.mono B1.out.size))
      clear b2
      go_wp2_with fail
      go_ret
      exact ⟨rfl, B2.out⟩
    · have h21 : (m : Int) ≤ 20 := by omega
      have j21 : ¬ (20 : Int) < m := by omega
      have HG := Lib.hid (HTT.out rfl)
      have hn30 : n ≤ 30 := by have := (muchG_no HMM.out).1; rw [HN.out] at this; exact this
      have HX := Lib.hid (show Ints .i64 w (.slice ax m cx) x from HAX.out.ints (by rw [HML.out]; omega))
      have h1 := fun W (hb : Below w.heap.size w W) => fscore_any _ _ f x W (HG.out.below hb) (HX.out.below hb)
      have h2 := fun W (hb : Below w.heap.size w W) => rscore14_any _ _ f x W (HG.out.below hb) (HX.out.below hb)
      have h3 := fun W (hb : Below w.heap.size w W) => falone_any _ _ f x W (HG.out.below hb) (HX.out.below hb)
      have h4 := fun W (hb : Below w.heap.size w W) => ralone14_any _ _ f x W (HG.out.below hb) (HX.out.below hb)
      have HBT := Lib.hid (fun h : askE f x = 0 => scores_between h)
      have HAV := Lib.hid (show askE f x = 0 → 0 ≤ aloneV f x ∧ aloneV f x ≤ n from fun h => by
        rw [aloneV_yes h, HN.out]
        have := aloneK_le f x n
        omega)
      have HFF := Lib.hid (fun h : askE f x = 0 => (askE_ok h).1)
      obtain ⟨SP, hSP⟩ : ∃ z, scP f x = z := ⟨_, rfl⟩
      obtain ⟨SQ, hSQ⟩ : ∃ z, scQ f x = z := ⟨_, rfl⟩
      obtain ⟨AV, hAV⟩ : ∃ z, aloneV f x = z := ⟨_, rfl⟩
      obtain ⟨E, hE⟩ : ∃ z, askE f x = z := ⟨_, rfl⟩
      rw [hSP, hSQ, hE] at h1 h2
      rw [hAV, hE] at h3 h4
      rw [hSP, hSQ, hE, HN.out] at HBT
      rw [hAV, hE] at HAV
      rw [hE] at HFF
      have H1 := Lib.hid h1; have H2 := Lib.hid h2; have H3 := Lib.hid h3; have H4 := Lib.hid h4
      have j1 : (SP != SP) = false := by simp
      have j2 : (SQ != SQ) = false := by simp
      have j3 : (AV != AV) = false := by simp
      have j4 : (E != E) = false := by simp
      have hnb : (n : Int) ≤ 30 := by omega
      clear h1 h2 h3 h4 hSP hSQ hAV hE HTT
      by_cases hz : E = 0
      · subst hz
        have HF := Lib.hid (HFF.out rfl)
        have HB := Lib.hid (HBT.out rfl)
        have hav := HAV.out rfl
        have a1 : 0 ≤ AV := hav.1
        have a2 : AV ≤ (n : Int) := hav.2
        have hn16 : n ≤ 16 := by have := isF_len HF.out; rw [HN.out] at this; exact this
        clear hav j4
        go_enter Try.func5, Try.ntmps5
        go_wp2_with fail
        (with_reducible refine (HM.out _ (by (repeat (first | with_reducible exact Below.refl _ _ | with_reducible refine Bs ?_ | with_reducible refine Ba ?_ | with_reducible refine Bd ?_ | with_reducible refine Bn ?_)))).mono ?_)
        rintro e w1 ⟨rfl, b1⟩
        have B1 := Lib.hid b1
        have z1 : w.heap.size ≤ w1.heap.size := b1.size
        clear b1
        go_wp2_with fail
        (with_reducible refine (H1.out _ (by (repeat (first | with_reducible exact Below.refl _ _ | with_reducible refine Bs ?_ | with_reducible refine Ba ?_ | with_reducible refine Bd ?_ | with_reducible refine Bn ?_ | with_reducible refine Bt B1.out ?_)))).mono ?_); rintro e w2 ⟨rfl, b2⟩; have s2 : w1.heap.size ≤ w2.heap.size := sz b2; have B2 := Lib.hid (Bc (B := w.heap.size) (a := w) (by (repeat (first | with_reducible exact Below.refl _ _ | with_reducible refine Bs ?_ | with_reducible refine Ba ?_ | with_reducible refine Bd ?_ | with_reducible refine Bn ?_ | with_reducible refine Bt B1.out ?_))) b2); clear b2
        go_wp2_with fail
        (with_reducible refine (H2.out _ (by (repeat (first | with_reducible exact Below.refl _ _ | with_reducible refine Bs ?_ | with_reducible refine Ba ?_ | with_reducible refine Bd ?_ | with_reducible refine Bn ?_ | with_reducible refine Bt B2.out ?_)))).mono ?_); rintro e w3 ⟨rfl, b3⟩; have s3 : w2.heap.size + 1 ≤ w3.heap.size := sz b3; have B3 := Lib.hid (Bc (B := w.heap.size) (a := w) (by (repeat (first | with_reducible exact Below.refl _ _ | with_reducible refine Bs ?_ | with_reducible refine Ba ?_ | with_reducible refine Bd ?_ | with_reducible refine Bn ?_ | with_reducible refine Bt B2.out ?_))) b3); obtain ⟨c3_0, c3_1⟩ := k2 (w2.heap.size) (.int .i64 SP) (.int .i64 SQ) b3 (by and_intros <;> go_simp); obtain ⟨l3_0, n3_0, m3_0⟩ := lnm (show w2.heap.size < w3.heap.size by omega); clear b3
        go_wp2_with fail
        (with_reducible refine (H3.out _ (by (repeat (first | with_reducible exact Below.refl _ _ | with_reducible refine Bs ?_ | with_reducible refine Ba ?_ | with_reducible refine Bd ?_ | with_reducible refine Bn ?_ | with_reducible refine Bt B3.out ?_)))).mono ?_); rintro e w4 ⟨rfl, b4⟩; have s4 : w3.heap.size + 1 ≤ w4.heap.size := sz b4; have B4 := Lib.hid (Bc (B := w.heap.size) (a := w) (by (repeat (first | with_reducible exact Below.refl _ _ | with_reducible refine Bs ?_ | with_reducible refine Ba ?_ | with_reducible refine Bd ?_ | with_reducible refine Bn ?_ | with_reducible refine Bt B3.out ?_))) b4); obtain ⟨c4_0, c4_1⟩ := k2 (w2.heap.size) (.int .i64 SP) (.int .i64 SQ) b4 (by and_intros <;> go_simp); obtain ⟨c4_2, c4_3⟩ := k2 (w3.heap.size) (.int .i64 SP) (.int .i64 SQ) b4 (by and_intros <;> go_simp); obtain ⟨l4_0, n4_0, m4_0⟩ := lnm (show w2.heap.size < w4.heap.size by omega); obtain ⟨l4_1, n4_1, m4_1⟩ := lnm (show w3.heap.size < w4.heap.size by omega); clear b4
        go_wp2_with fail
        (with_reducible refine (H4.out _ (by (repeat (first | with_reducible exact Below.refl _ _ | with_reducible refine Bs ?_ | with_reducible refine Ba ?_ | with_reducible refine Bd ?_ | with_reducible refine Bn ?_ | with_reducible refine Bt B4.out ?_)))).mono ?_); rintro e w5 ⟨rfl, b5⟩; have s5 : w4.heap.size ≤ w5.heap.size := sz b5; have B5 := Lib.hid (Bc (B := w.heap.size) (a := w) (by (repeat (first | with_reducible exact Below.refl _ _ | with_reducible refine Bs ?_ | with_reducible refine Ba ?_ | with_reducible refine Bd ?_ | with_reducible refine Bn ?_ | with_reducible refine Bt B4.out ?_))) b5); obtain ⟨c5_0, c5_1⟩ := k2 (w2.heap.size) (.int .i64 SP) (.int .i64 SQ) b5 (by and_intros <;> go_simp); obtain ⟨c5_2, c5_3⟩ := k2 (w3.heap.size) (.int .i64 SP) (.int .i64 SQ) b5 (by and_intros <;> go_simp); obtain ⟨l5_0, n5_0, m5_0⟩ := lnm (show w2.heap.size < w5.heap.size by omega); obtain ⟨l5_1, n5_1, m5_1⟩ := lnm (show w3.heap.size < w5.heap.size by omega); clear b5
        go_wp2_with fail
        go_loopw [13, 14, 15, 16, 17, 18] (fun lo hi idx _ _ _ wr => ∃ k : Nat, idx = .int .i64 k ∧ k ≤ n ∧ lo = .int .i64 (sumI ((f.take k).map loT)) ∧ hi = .int .i64 (sumI ((f.take k).map hiT)) ∧ Below w5.heap.size w5 wr) (fun _ _ idx _ _ _ _ => n - (intOf idx).toNat)
        case atStart => exact ⟨0, rfl, by omega, rfl, rfl, Below.refl _ _⟩
        case round =>
          obtain ⟨k, rfl, hk, rfl, rfl, hbr⟩ := hrel
          have BR := Lib.hid hbr
          have hz := hbr.size
          have BRW := Lib.hid (show Below w.heap.size w wr from B5.out.trans (hbr.mono B5.out.size))
          have c6_0 := (hbr.cell (p := ⟨w2.heap.size, 0, none⟩) (by simp; omega)).trans c5_0
          have c6_1 := (hbr.cell (p := ⟨w2.heap.size, 1, none⟩) (by simp; omega)).trans c5_1
          have hbd := ends_bds HF.out k
          by_cases hlt : k < n
          · obtain ⟨p, hp⟩ := getElem?_ex (l := f) (k := k) (by rw [HN.out]; exact hlt)
            obtain ⟨b, o, na, nc, rfl, hb, c0, c1, c2, _, hnp⟩ := growns_at HG.out hp
            have e0 := (BRW.out.cell (p := ⟨b, o + k * 3, none⟩) hb).trans c0
            have e1 := (BRW.out.cell (p := ⟨b, o + k * 3 + 1, none⟩) hb).trans c1
            have HT := Lib.hid (show TreeR w (.agg #[.int .i64 p.1.dim, .slice na p.1.nodes.length nc]) p.1 from ⟨_, rfl, hnp⟩)
            have hll := fun (W : World) (hW : TreeR W (.agg #[.int .i64 p.1.dim, .slice na p.1.nodes.length nc]) p.1) => rends12_any _ p.1 W hW
            have htb := (isF_at HF.out hp).2.1
            rw [htb] at hll
            simp only [if_true] at hll
            have HLL := Lib.hid (show ∀ W, TreeR W (.agg #[.int .i64 p.1.dim, .slice na p.1.nodes.length nc]) p.1 → Calls Try.prog 30 #[.agg #[.int .i64 p.1.dim, .slice na p.1.nodes.length nc]] W fun e w' => e = .returned (.tuple #[.int .i64 (loT p), .int .i64 (hiT p), .int .i64 0]) ∧ Below W.heap.size W w' from hll)
            have heb := ends_bd (treeB_true.1 htb)
            have l1 : 0 ≤ loT p := heb.1
            have l2 : loT p ≤ 556198264832 := heb.2.1
            have l3 : 0 ≤ hiT p := heb.2.2.1
            have l4 : hiT p ≤ 556198264832 := heb.2.2.2
            have HS1 := Lib.hid (show sumI ((f.take (k + 1)).map loT) = sumI ((f.take k).map loT) + loT p by rw [List.take_add_one, hp, List.map_append]; exact sumI_snoc _ _)
            have HS2 := Lib.hid (show sumI ((f.take (k + 1)).map hiT) = sumI ((f.take k).map hiT) + hiT p by rw [List.take_add_one, hp, List.map_append]; exact sumI_snoc _ _)
            have i1 : (0 : Int) ≤ (k : Int) := by omega
            have i2 : (k : Int) < (n : Int) := by omega
            have hbz : b < wr.heap.size := by have := BRW.out.size; omega
            obtain ⟨m1, m2, m3, m4⟩ := hbd
            clear hll htb heb c0 c1 c2 hp hnp hbr
            generalize sumI ((f.take k).map loT) = LO at *
            generalize sumI ((f.take k).map hiT) = HI at *
            generalize loT p = lp at *
            generalize hiT p = hp' at *
            generalize p.1.nodes.length = tn at *
            generalize p.1.dim = d at *
            go_wp2_with fail
            (with_reducible refine (HLL.out _ ((HT.out.below BRW.out).below (by (repeat (first | with_reducible exact Below.refl _ _ | with_reducible refine Bs ?_ | with_reducible refine Ba ?_ | with_reducible refine Bd ?_ | with_reducible refine Bn ?_))))).mono ?_)
            rintro e w7 ⟨rfl, b7⟩
            have B7 := Lib.hid (show Below wr.heap.size wr w7 from b7)
            clear b7
            go_wp2_with fail
            go_roundw
            case rel => exact ⟨k + 1, by go_num, by omega, by rw [HS1.out], by rw [HS2.out], BR.out.trans (B7.out.mono hz)⟩
            case measure => simp [intOf] <;> omega
          · obtain rfl : k = n := by omega
            have HBB := HB.out
            rw [List.take_of_length_le (by rw [HN.out]; omega)]
            clear hbd hbr
            generalize sumI (f.map loT) = LO at *
            generalize sumI (f.map hiT) = HI at *
            obtain ⟨p1, hp1⟩ : ∃ z, LO * SQ = z := ⟨_, rfl⟩
            obtain ⟨p2, hp2⟩ : ∃ z, SP * (k : Int) = z := ⟨_, rfl⟩
            obtain ⟨p3, hp3⟩ : ∃ z, HI * SQ = z := ⟨_, rfl⟩
            rw [hp1, hp2, hp3] at HBB
            obtain ⟨q1, q2, q3, q4⟩ := HBB
            go_wp2_with fail
            (with_reducible refine (lives14_any _).mono ?_)
            rintro e w8 ⟨rfl, b8⟩
            have B8 := Lib.hid (show Below w.heap.size w w8 from BRW.out.trans (b8.mono BRW.out.size))
            clear b8
            go_wp2_with fail
            go_ret
            exact ⟨rfl, B8.out⟩
      · have jz : (E != 0) = true := by simp [hz]
        clear HBT HAV HFF hz
        go_enter Try.func5, Try.ntmps5
        go_wp2_with fail
        (with_reducible refine (HM.out _ (by (repeat (first | with_reducible exact Below.refl _ _ | with_reducible refine Bs ?_ | with_reducible refine Ba ?_ | with_reducible refine Bd ?_ | with_reducible refine Bn ?_)))).mono ?_)
        rintro e w1 ⟨rfl, b1⟩
        have B1 := Lib.hid b1
        have z1 : w.heap.size ≤ w1.heap.size := b1.size
        clear b1
        go_wp2_with fail
        (with_reducible refine (H1.out _ (by (repeat (first | with_reducible exact Below.refl _ _ | with_reducible refine Bs ?_ | with_reducible refine Ba ?_ | with_reducible refine Bd ?_ | with_reducible refine Bn ?_ | with_reducible refine Bt B1.out ?_)))).mono ?_); rintro e w2 ⟨rfl, b2⟩; have s2 : w1.heap.size ≤ w2.heap.size := sz b2; have B2 := Lib.hid (Bc (B := w.heap.size) (a := w) (by (repeat (first | with_reducible exact Below.refl _ _ | with_reducible refine Bs ?_ | with_reducible refine Ba ?_ | with_reducible refine Bd ?_ | with_reducible refine Bn ?_ | with_reducible refine Bt B1.out ?_))) b2); clear b2
        go_wp2_with fail
        (with_reducible refine (H2.out _ (by (repeat (first | with_reducible exact Below.refl _ _ | with_reducible refine Bs ?_ | with_reducible refine Ba ?_ | with_reducible refine Bd ?_ | with_reducible refine Bn ?_ | with_reducible refine Bt B2.out ?_)))).mono ?_); rintro e w3 ⟨rfl, b3⟩; have s3 : w2.heap.size + 1 ≤ w3.heap.size := sz b3; have B3 := Lib.hid (Bc (B := w.heap.size) (a := w) (by (repeat (first | with_reducible exact Below.refl _ _ | with_reducible refine Bs ?_ | with_reducible refine Ba ?_ | with_reducible refine Bd ?_ | with_reducible refine Bn ?_ | with_reducible refine Bt B2.out ?_))) b3); obtain ⟨c3_0, c3_1⟩ := k2 (w2.heap.size) (.int .i64 SP) (.int .i64 SQ) b3 (by and_intros <;> go_simp); obtain ⟨l3_0, n3_0, m3_0⟩ := lnm (show w2.heap.size < w3.heap.size by omega); clear b3
        go_wp2_with fail
        (with_reducible refine (H3.out _ (by (repeat (first | with_reducible exact Below.refl _ _ | with_reducible refine Bs ?_ | with_reducible refine Ba ?_ | with_reducible refine Bd ?_ | with_reducible refine Bn ?_ | with_reducible refine Bt B3.out ?_)))).mono ?_); rintro e w4 ⟨rfl, b4⟩; have s4 : w3.heap.size + 1 ≤ w4.heap.size := sz b4; have B4 := Lib.hid (Bc (B := w.heap.size) (a := w) (by (repeat (first | with_reducible exact Below.refl _ _ | with_reducible refine Bs ?_ | with_reducible refine Ba ?_ | with_reducible refine Bd ?_ | with_reducible refine Bn ?_ | with_reducible refine Bt B3.out ?_))) b4); obtain ⟨c4_0, c4_1⟩ := k2 (w2.heap.size) (.int .i64 SP) (.int .i64 SQ) b4 (by and_intros <;> go_simp); obtain ⟨c4_2, c4_3⟩ := k2 (w3.heap.size) (.int .i64 SP) (.int .i64 SQ) b4 (by and_intros <;> go_simp); obtain ⟨l4_0, n4_0, m4_0⟩ := lnm (show w2.heap.size < w4.heap.size by omega); obtain ⟨l4_1, n4_1, m4_1⟩ := lnm (show w3.heap.size < w4.heap.size by omega); clear b4
        go_wp2_with fail
        (with_reducible refine (H4.out _ (by (repeat (first | with_reducible exact Below.refl _ _ | with_reducible refine Bs ?_ | with_reducible refine Ba ?_ | with_reducible refine Bd ?_ | with_reducible refine Bn ?_ | with_reducible refine Bt B4.out ?_)))).mono ?_); rintro e w5 ⟨rfl, b5⟩; have s5 : w4.heap.size ≤ w5.heap.size := sz b5; have B5 := Lib.hid (Bc (B := w.heap.size) (a := w) (by (repeat (first | with_reducible exact Below.refl _ _ | with_reducible refine Bs ?_ | with_reducible refine Ba ?_ | with_reducible refine Bd ?_ | with_reducible refine Bn ?_ | with_reducible refine Bt B4.out ?_))) b5); obtain ⟨c5_0, c5_1⟩ := k2 (w2.heap.size) (.int .i64 SP) (.int .i64 SQ) b5 (by and_intros <;> go_simp); obtain ⟨c5_2, c5_3⟩ := k2 (w3.heap.size) (.int .i64 SP) (.int .i64 SQ) b5 (by and_intros <;> go_simp); obtain ⟨l5_0, n5_0, m5_0⟩ := lnm (show w2.heap.size < w5.heap.size by omega); obtain ⟨l5_1, n5_1, m5_1⟩ := lnm (show w3.heap.size < w5.heap.size by omega); clear b5
        go_wp2_with fail
        (with_reducible refine (lives14_any _).mono ?_)
        rintro e w8 ⟨rfl, b8⟩
        have B8 := Lib.hid (show Below w.heap.size w w8 from B5.out.trans (b8.mono B5.out.size))
        clear b8
        go_wp2_with fail
        go_ret
        exact ⟨rfl, B8.out⟩
end Go.Proofs.Ytdbonlpkmncggaa
