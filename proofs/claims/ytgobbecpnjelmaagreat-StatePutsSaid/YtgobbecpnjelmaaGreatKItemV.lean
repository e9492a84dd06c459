/-
  ItemV: Walks of the reference's RightSeen, of item.PutSeen and of the reference's Seen.
-/
import Derived.Test.YtgobbecpnjelmaaGreatJ0c
import Derived.Test.YtgobbecpnjelmaaGreatJ1a
import Derived.Test.YtgobbecpnjelmaaGreatJ0b
namespace Go.Proofs.YtgobbecpnjelmaaGreat
open Go.RowKit

set_option maxRecDepth 100000 in
set_option maxHeartbeats 8000000 in
theorem rrightSeen_any (id P Q dim : Int) (s : Bool) (vx : Value) (x : List Int) (w : World) (h : Ints .i64 w vx x) :
  Calls Tryz.prog 79 #[.agg #[.int .i64 id, vx, .int .i64 P, .int .i64 Q, .bool s], .int .i64 dim] w fun e w' => e = .returned (.bool (seenB id x P Q s dim)) ∧ Below w.heap.size w w' := by
 have HX := hH h
 obtain ⟨xa, xc, rfl⟩ := h.shape
 have HV := hH (fun W (hW : Ints .i64 W (.slice xa x.length xc) x) => risv_any _ x dim W hW)
 have HS := hH (fun W => ris13_any P Q W)
 have HR := hH (show seenB id x P Q s dim = (decide (1 ≤ id ∧ id ≤ 1099511627776) && vecB x dim && (if s = true then scoreB (P, Q) else decide (P = 0 ∧ Q = 0))) from rfl)
 generalize seenB id x P Q s dim = R at *
 clear h
 by_cases hid : 1 ≤ id ∧ id ≤ 1099511627776
 ·rw [decide_eq_true hid] at HR
  obtain ⟨i1, i2⟩ := hid
  generalize vecB x dim = V at *
  cases V with
  | false =>
   have HR2 := hH (show R = false by rw [HR.out]; rfl)
   clear HR
   go_enter Tryz.func79, Tryz.ntmps79
   go_wp2_with fail
   (with_reducible refine (HV.out _ (HX.out.below bw)).mono ?_)
   rintro e w1 ⟨rfl, rfl⟩
   go_wp2_with fail
   go_ret
   exact ⟨ret_bool HR2.out.symm, bw⟩
  | true =>
   cases s with
   | true =>
    have HR2 := hH (show R = scoreB (P, Q) by rw [HR.out]; rfl)
    clear HR
    generalize scoreB (P, Q) = B at *
    go_enter Tryz.func79, Tryz.ntmps79
    go_wp2_with fail
    (with_reducible refine (HV.out _ (HX.out.below bw)).mono ?_)
    rintro e w1 ⟨rfl, rfl⟩
    go_wp2_with fail
    (with_reducible refine (HS.out _).mono ?_); rintro e w2 ⟨rfl, b2⟩; have s2 : w.heap.size + 1 ≤ w2.heap.size := sz b2; have B2 := hJ w b2; clear b2
    go_wp2_with fail
    go_ret
    exact ⟨ret_bool HR2.out.symm, B2.out⟩
   | false =>
    have HR2 := hH (show R = decide (P = 0 ∧ Q = 0) by rw [HR.out]; rfl)
    clear HR
    go_enter Tryz.func79, Tryz.ntmps79
    go_wp2_with fail
    (with_reducible refine (HV.out _ (HX.out.below bw)).mono ?_)
    rintro e w1 ⟨rfl, rfl⟩
    go_wp2_with fail
    all_goals
     go_ret
     refine ⟨ret_bool ?_, bw⟩
     rw [HR2.out]
     first | rfl | (simp [*]; done) | (by_cases hq : Q = 0 <;> simp [*]; done)
 ·have HR2 := hH (show R = false by rw [HR.out, decide_eq_false hid]; rfl)
  clear HR
  have hid2 : id < 1 ∨ 1099511627776 < id := by omega
  clear hid
  rcases hid2 with h1 | h1
  ·go_enter Tryz.func79, Tryz.ntmps79
   go_wp2_with fail
   go_ret
   exact ⟨ret_bool HR2.out.symm, bw⟩
  ·have h2 : ¬ id < 1 := by omega
   go_enter Tryz.func79, Tryz.ntmps79
   go_wp2_with fail
   go_ret
   exact ⟨ret_bool HR2.out.symm, bw⟩

theorem Ints.at {k : IntKind} {w : World} {a : Option Addr} {n c : Nat} {l : List Int} (h : Ints k w (.slice a n c) l) {i : Nat} {x : Int} (hi : l[i]? = some x) : ∃ b o, a = some ⟨b, o, none⟩ ∧ b < w.heap.size ∧ w.cell? ⟨b, o + i, none⟩ = some (.int k x) := by
 obtain ⟨a', c', e, _, _, _, g⟩ := h
 injection e with e1 e2 e3
 subst e1
 exact g i x hi

def seenBytes (id : Int) (x : List Int) (P Q : Int) (s : Bool) (dim : Int) : List Int :=
 if seenB id x P Q s dim = true then putsU id.toNat ++ putsIs x ++ (if s = true then putsU 1 ++ scoreBytes (P, Q) else putsU 0) else []

theorem vecB_iff {x : List Int} {dim : Int} (h : vecB x dim = true) : (1 ≤ dim ∧ dim ≤ 8) ∧ (x.length : Int) = dim ∧ ∀ z ∈ x, Ok64 z := by
 unfold vecB at h
 simp only [Bool.and_eq_true, decide_eq_true_eq, List.all_eq_true] at h
 obtain ⟨⟨⟨h1, h2⟩, h3⟩, h4⟩ := h
 refine ⟨⟨h1, h2⟩, h3, fun z hz => ?_⟩
 have := h4 z hz
 unfold Ok64
 omega

theorem seenB_iff {id : Int} {x : List Int} {P Q : Int} {s : Bool} {dim : Int} (h : seenB id x P Q s dim = true) : (1 ≤ id ∧ id ≤ 1099511627776) ∧ x.length ≤ 8 ∧ (∀ z ∈ x, Ok64 z) ∧ (s = true → scoreB (P, Q) = true) := by
 unfold seenB at h
 simp only [Bool.and_eq_true, decide_eq_true_eq] at h
 obtain ⟨⟨h1, h2⟩, h3⟩ := h
 obtain ⟨v1, v2, v3⟩ := vecB_iff h2
 refine ⟨h1, by omega, v3, fun hs => ?_⟩
 rw [if_pos hs] at h3
 exact h3

theorem putsIs_next {x : List Int} {k : Nat} {z : Int} (h : x[k]? = some z) : putsIs (x.take (k + 1)) = putsIs (x.take k) ++ putsI z := by
 rw [take_snoc' h]
 induction x.take k with
 | nil => simp [putsIs]
 | cons a l ih => simp [putsIs, ih]

theorem scoreBytes_len (p : Int × Int) : (scoreBytes p).length ≤ 18 := by
 unfold scoreBytes
 split
 ·have := putsU_len (n := p.1.toNat)
  have := putsU_len (n := p.2.toNat)
  rw [List.length_append]
  omega
 ·simp

theorem seenBytes_len (id : Int) (x : List Int) (P Q : Int) (s : Bool) (dim : Int) : (seenBytes id x P Q s dim).length ≤ 110 := by
 unfold seenBytes
 split
 ·rename_i h
  have h1 := (seenB_iff h).2.1
  have h2 := putsIs_len x
  have h3 := putsU_len (n := id.toNat)
  have h4 := scoreBytes_len (P, Q)
  have h5 := putsU_len (n := 1)
  have h6 := putsU_len (n := 0)
  simp only [List.length_append]
  split
  ·simp only [List.length_append]; omega
  ·omega
 ·simp

set_option maxRecDepth 100000 in
set_option maxHeartbeats 16000000 in
theorem putSeen_any (v : Value) (pre : List Int) (id P Q dim : Int) (s : Bool) (vx : Value) (x : List Int) (w : World) (h : Ints .u8 w v pre) (hx : Ints .i64 w vx x) (hb : pre.length ≤ 9000) :
  Calls Tryz.prog 51 #[v, .agg #[.int .i64 id, vx, .int .i64 P, .int .i64 Q, .bool s], .int .i64 dim] w fun e w' => ∃ v', e = .returned v' ∧ Ints .u8 w' v' (pre ++ seenBytes id x P Q s dim) ∧ Below w.heap.size w w' := by
 have HP := hH h
 have HX := hH hx
 obtain ⟨pa, pc, rfl⟩ := h.shape
 obtain ⟨xa, xc, rfl⟩ := hx.shape
 have HRS := hH (fun W (hW : Ints .i64 W (.slice xa x.length xc) x) => rightSeen_any id P Q dim s _ x W hW)
 clear hx
 cases hs : seenB id x P Q s dim with
 | false =>
  have HC := hH (fun W (hW : Ints .u8 W (.slice pa pre.length pc) pre) => clone8_any _ pre W hW (by omega))
  have HSB := hH (show seenBytes id x P Q s dim = [] by unfold seenBytes; rw [hs]; rfl)
  rw [hs] at HRS
  clear hs h
  have HN := hH (show pre.length ≤ 9000 from hb)
  go_enter Tryz.func51, Tryz.ntmps51
  go_wp2_with fail
  (with_reducible refine (HRS.out _ (HX.out.below bw)).mono ?_); rintro e w1 ⟨rfl, b1⟩; have s1 : w.heap.size + 1 ≤ w1.heap.size := sz b1; have B1 := hJ w b1; clear b1
  go_wp2_with fail
  (with_reducible refine (HC.out _ (HP.out.below (bx B1.out))).mono ?_)
  rintro e w2 ⟨v2, rfl, o2, b2⟩
  have B2 := hH (below_tr B1.out (b2.mono (by omega)))
  go_wp2_with fail
  go_ret
  exact ⟨_, rfl, by rw [HSB.out, List.append_nil]; exact (Ints.own o2 (by have := HN.out; omega)).2, B2.out⟩
 | true =>
  obtain ⟨⟨i1, i2⟩, hl, h64, hsc⟩ := seenB_iff hs
  have HL := hH hl
  have H64 := hH h64
  have HB := hH hb
  have HSB := hH (show seenBytes id x P Q s dim = putsU id.toNat ++ putsIs x ++ (if s = true then putsU 1 ++ scoreBytes (P, Q) else putsU 0) by unfold seenBytes; rw [if_pos hs])
  rw [hs] at HRS
  have HI1 := hH (And.intro (show (0 : Int) ≤ id by omega) (show id ≤ 9223372036854775807 by omega))
  clear h h64 hb i1 i2 hsc hs
  go_enter Tryz.func51, Tryz.ntmps51
  go_wp2_with fail
  (with_reducible refine (HRS.out _ (HX.out.below bw)).mono ?_); rintro e w1 ⟨rfl, b1⟩; have s1 : w.heap.size + 1 ≤ w1.heap.size := sz b1; have B1 := hJ w b1; obtain ⟨c1_0, c1_1, c1_2, c1_3, c1_4⟩ := k5 (w.heap.size) (.int .i64 id) (.slice xa x.length xc) (.int .i64 P) (.int .i64 Q) (.bool s) b1 aJ; obtain ⟨l1_0, n1_0, m1_0⟩ := lnm (show w.heap.size < w1.heap.size by omega); clear b1
  go_wp2_with fail
  (with_reducible refine (nats1_any _ _ id _ _ (by rfl) (HP.out.below (bx B1.out)) HI1.out (by have := HB.out; omega)).mono ?_); rintro e w2 ⟨v2, l2, rfl, e2, g2, i2, b2⟩; have s2 : w1.heap.size ≤ w2.heap.size := sz b2; have B2 := bJ B1.out b2; obtain ⟨c2_0, c2_1, c2_2, c2_3, c2_4⟩ := k5 (w.heap.size) (.int .i64 id) (.slice xa x.length xc) (.int .i64 P) (.int .i64 Q) (.bool s) b2 aJ; obtain ⟨l2_0, n2_0, m2_0⟩ := lnm (show w.heap.size < w2.heap.size by omega); clear b2
  have G2 := hH (show l2.length ≤ 9100 by have := HB.out; omega)
  have I2 := hH i2; have E2 := hH e2; clear i2 e2 g2
  go_wp2_with fail
  have hl2 : (x.length : Int) ≤ 8 := by omega
  obtain ⟨n, hn⟩ : ∃ n, x.length = n := ⟨_, rfl⟩
  have HN := hH hn
  rw [hn] at hl hl2 HX c2_1 ⊢
  clear hn
  go_loopw [7, 9, 24] (fun vb _ i wr => ∃ k : Nat, i = .int .i64 k ∧ k ≤ n ∧ Ints .u8 wr vb (l2 ++ putsIs (x.take k)) ∧ Below w2.heap.size w2 wr) (fun _ _ i _ => n - (intOf i).toNat)
  case atStart => exact ⟨0, rfl, by omega, by simpa [putsIs] using I2.out, bw⟩
  case round =>
   obtain ⟨k, rfl, hk, hi, hbr⟩ := hrel
   have HI := hH hi
   have HBR := hH hbr
   have i1 : (0 : Int) ≤ (k : Int) := by omega
   obtain ⟨ba, bc, rfl⟩ := hi.shape
   have hsz := hbr.size
   have hlb : (l2 ++ putsIs (x.take k)).length ≤ 9200 := by
    have h1 := putsIs_len (x.take k)
    have h2 : (x.take k).length ≤ 8 := by rw [List.length_take]; omega
    have := G2.out
    rw [List.length_append]
    omega
   obtain ⟨bl, hbl⟩ : ∃ bl, (l2 ++ putsIs (x.take k)).length = bl := ⟨_, rfl⟩
   rw [hbl] at HI hlb ⊢
   have HBL := hH hbl
   have hbx := (HX.out.below (show Below w.heap.size w wr from by (repeat (first | with_reducible exact Below.refl _ _ | with_reducible refine Bs ?_ | with_reducible refine Ba ?_ | with_reducible refine Bd ?_ | with_reducible refine Bn ?_ | with_reducible refine Bt B2.out ?_ | with_reducible refine Bt HBR.out ?_))))
   have e0 : wr.cell? ⟨w.heap.size, 0, none⟩ = some (.int .i64 id) := (hbr.cell mJ).trans (by go_simp)
   have e1 : wr.cell? ⟨w.heap.size, 1, none⟩ = some (.slice xa n xc) := (hbr.cell mJ).trans (by go_simp)
   have e2 : wr.cell? ⟨w.heap.size, 2, none⟩ = some (.int .i64 P) := (hbr.cell mJ).trans (by go_simp)
   have e3 : wr.cell? ⟨w.heap.size, 3, none⟩ = some (.int .i64 Q) := (hbr.cell mJ).trans (by go_simp)
   have e4 : wr.cell? ⟨w.heap.size, 4, none⟩ = some (.bool s) := (hbr.cell mJ).trans (by go_simp)
   clear hbl hi
   by_cases hlt : k < n
   ·obtain ⟨z, hz⟩ := getElem?_ex (l := x) (k := k) (by rw [HN.out]; exact hlt)
    obtain ⟨b, o, hxa, hbw, c0⟩ := hbx.at hz
    subst hxa
    have hz64 := H64.out z (List.mem_of_getElem? hz)
    have HK := hH (putsIs_next hz)
    have HPI := hH (fun W (hW : Ints .u8 W (.slice ba bl bc) (l2 ++ putsIs (x.take k))) => putI_any _ _ z W hW (by rw [HBL.out]; omega) hz64)
    have i2 : (k : Int) < (n : Int) := by omega
    clear hbr hbx hz hz64 hbw
    go_wp2_with fail
    (with_reducible refine (HPI.out _ HI.out).mono ?_)
    rintro e w4 ⟨v4, rfl, o4, b4⟩
    have O4 := hH (o4.ints' (by have := putsU_len (n := zig z); rw [List.length_append, HBL.out]; unfold putsI; omega))
    have B4 := hH (show Below wr.heap.size wr w4 from below_tr bw (b4.mono mJ))
    clear b4 o4
    go_wp2_with fail
    go_roundw
    case rel => exact ⟨k + 1, by go_num, by omega, by rw [HK.out, ← List.append_assoc]; exact O4.out, by (repeat (first | with_reducible exact Below.refl _ _ | with_reducible refine Bs ?_ | with_reducible refine Ba ?_ | with_reducible refine Bd ?_ | with_reducible refine Bn ?_ | with_reducible refine Bt B4.out ?_ | with_reducible refine Bt HBR.out ?_))⟩
    case measure => simp [intOf] <;> omega
   ·obtain rfl : k = n := by omega
    have htk : x.take k = x := List.take_of_length_le (by rw [HN.out]; exact Nat.le_refl _)
    rw [htk] at HI HBL
    have HLB := hH hlb
    have B3 := hH (show Below w.heap.size w wr from by (repeat (first | with_reducible exact Below.refl _ _ | with_reducible refine Bs ?_ | with_reducible refine Ba ?_ | with_reducible refine Bd ?_ | with_reducible refine Bn ?_ | with_reducible refine Bt B2.out ?_ | with_reducible refine Bt HBR.out ?_)))
    clear htk hbr hbx hlb
    cases s with
    | false =>
     go_wp2_with fail
     (with_reducible refine (nats1_any _ _ 0 _ _ (by rfl) HI.out ⟨by decide, by decide⟩ (by rw [HBL.out]; have := HLB.out; omega)).mono ?_)
     rintro e w5 ⟨v5, l5, rfl, e5, g5, i5, b5⟩
     have I5 := hH i5
     have B5 := hH (below_tr B3.out (b5.mono mJ))
     have E5 := hH e5
     clear i5 b5 e5 g5
     go_wp2_with fail
     go_ret
     have r := I5.out
     rw [E5.out, E2.out] at r
     have r2 : Ints .u8 w5 v5 (pre ++ seenBytes id x P Q false dim) := by (rw [HSB.out]; simpa only [List.append_assoc, Bool.false_eq_true, if_false, Int.toNat_zero] using r)
     exact ⟨_, rfl, r2, B5.out⟩
    | true =>
     go_wp2_with fail
     refine wp_region_held_drew (S := fun w' => w'.cell? ⟨w.heap.size, 2, none⟩ = some (.int .i64 P) ∧ w'.cell? ⟨w.heap.size, 3, none⟩ = some (.int .i64 Q)) rJ kJ (fun hHeld => ?_); refine lJ 0 hHeld ?_; refine lJ 3 hHeld ?_; refine lJ 4 hHeld ?_; refine lexHv 1 rfl ?_ rJ; (intro K hK); (go_simp); clear hHeld; refine pJ hK fun hHeld => ?_; clear hK K; refine lexHv 2 rfl ?_ rJ; (intro K hK); (go_simp; (go_at_call 89; (with_reducible refine (nats_any _ _ _ [1] _ (HI.out.below bw) ((newI1 1 wr 3 _ (by rfl)).drew) (by intro y hy; simp at hy; subst hy; decide) (by rw [HBL.out]; have := HLB.out; simp; omega)).mono ?_); rintro e w5 ⟨v5, rfl, i5, b5⟩; have E5 := hH (show l2 ++ putsIs x ++ natsB [1] = l2 ++ putsIs x ++ putsU 1 by simp [natsB]); rw [E5.out] at i5; have I5 := hH i5; have B5 := bJ B3.out b5; have G5 := hH (show (l2 ++ putsIs x ++ putsU 1).length ≤ 9300 by (rw [List.length_append, HBL.out]; have := HLB.out; have := putsU_len (n := 1); omega)); have s5 : wr.heap.size ≤ w5.heap.size := sz b5; have f2 : w5.cell? ⟨w.heap.size, 2, none⟩ = some (.int .i64 P) := kc b5 (by go_simp) mJ; have f3 : w5.cell? ⟨w.heap.size, 3, none⟩ = some (.int .i64 Q) := kc b5 (by go_simp) mJ; clear i5 b5); (try go_wp2_with fail)); clear hHeld; refine pJ hK fun hHeld => ?_; clear hK K; refine lexHv 5 rfl ?_ rJ; (intro K hK); (go_simp; (go_at_call 92; (with_reducible refine (putScore_any _ _ P Q _ I5.out (by have := G5.out; omega)).mono ?_); rintro e w6 ⟨v6, rfl, i6, b6⟩; have I6 := hH i6; have B6 := hH (below_tr B5.out (b6.mono mJ)); have h2 : w6.cell? ⟨w.heap.size, 2, none⟩ = some (.int .i64 P) := kc b6 f2 (by omega); have h3 : w6.cell? ⟨w.heap.size, 3, none⟩ = some (.int .i64 Q) := kc b6 f3 (by omega); clear i6 b6); (try go_wp2_with fail)); clear hHeld; refine pJ hK fun hHeld => ?_; clear hK K; refine lJ 6 hHeld ?_; refine wpAnyH_done rJ ?_ _
     go_wp2_with fail
     go_ret
     have r := I6.out
     rw [E2.out] at r
     have r2 : Ints .u8 w6 v6 (pre ++ seenBytes id x P Q true dim) := by (rw [HSB.out]; simpa only [List.append_assoc, if_true, Int.toNat_one] using r)
     exact ⟨_, rfl, r2, B6.out⟩

theorem newB1 (z : Int) (W : World) (T : TypeId) (b : Nat) (hb : b = W.heap.size) : Ints .u8 (W.alloc (.cells #[.int .u8 z] T)) (.slice (some ⟨b, 0, none⟩) 1 1) [z] :=
 Ints.new' .u8 W T #[.int .u8 z] [z] b 1 1 hb rfl rfl (by omega) (by omega)

set_option maxRecDepth 100000 in
set_option maxHeartbeats 16000000 in
theorem rseen22_any (id P Q dim : Int) (s : Bool) (vx : Value) (x : List Int) (w : World) (hx : Ints .i64 w vx x) :
  Calls Tryz.prog 56 #[.agg #[.int .i64 id, vx, .int .i64 P, .int .i64 Q, .bool s], .int .i64 dim] w fun e w' => ∃ v', e = .returned v' ∧ Ints .u8 w' v' (seenBytes id x P Q s dim) ∧ Below w.heap.size w w' := by
 have HX := hH hx
 obtain ⟨xa, xc, rfl⟩ := hx.shape
 have HRS := hH (fun W (hW : Ints .i64 W (.slice xa x.length xc) x) => rrightSeen_any id P Q dim s _ x W hW)
 clear hx
 cases hs : seenB id x P Q s dim with
 | false =>
  have HSB := hH (show seenBytes id x P Q s dim = [] by unfold seenBytes; rw [hs]; rfl)
  rw [hs] at HRS
  clear hs
  go_enter Tryz.func56, Tryz.ntmps56
  go_wp2_with fail
  (with_reducible refine (HRS.out _ (HX.out.below bw)).mono ?_); rintro e w1 ⟨rfl, b1⟩; have s1 : w.heap.size + 1 ≤ w1.heap.size := sz b1; have B1 := hJ w b1; clear b1
  go_wp2_with fail
  go_ret
  exact ⟨_, rfl, by rw [HSB.out]; exact ints_nil _ _ _ _ (by omega), B1.out⟩
 | true =>
  obtain ⟨⟨i1, i2⟩, hl, h64, _⟩ := seenB_iff hs
  have HL := hH hl
  have H64 := hH h64
  have HSB := hH (show seenBytes id x P Q s dim = putsU id.toNat ++ putsIs x ++ (if s = true then putsU 1 ++ scoreBytes (P, Q) else putsU 0) by unfold seenBytes; rw [if_pos hs])
  rw [hs] at HRS
  obtain ⟨D, rfl⟩ : ∃ D : Nat, id = (D : Int) := ⟨id.toNat, by omega⟩
  have H1 := hH (fun W => rU_any D W (by omega))
  have HL1 := hH (putsU_len (n := D))
  have hD : (D : Int) ≤ 18446744073709551615 := by omega
  clear h64 i1 i2 hs
  go_enter Tryz.func56, Tryz.ntmps56
  go_wp2_with fail
  (with_reducible refine (HRS.out _ (HX.out.below bw)).mono ?_); rintro e w1 ⟨rfl, b1⟩; have s1 : w.heap.size + 1 ≤ w1.heap.size := sz b1; have B1 := hJ w b1; obtain ⟨c1_0, c1_1, c1_2, c1_3, c1_4⟩ := k5 (w.heap.size) (.int .i64 D) (.slice xa x.length xc) (.int .i64 P) (.int .i64 Q) (.bool s) b1 aJ; obtain ⟨l1_0, n1_0, m1_0⟩ := lnm (show w.heap.size < w1.heap.size by omega); clear b1
  go_wp2_with fail
  (with_reducible refine (H1.out _).mono ?_); rintro e w2 ⟨v2, rfl, o2, b2⟩; have s2 : w1.heap.size ≤ w2.heap.size := sz b2; have B2 := bJ B1.out b2; obtain ⟨c2_0, c2_1, c2_2, c2_3, c2_4⟩ := k5 (w.heap.size) (.int .i64 D) (.slice xa x.length xc) (.int .i64 P) (.int .i64 Q) (.bool s) b2 aJ; obtain ⟨l2_0, n2_0, m2_0⟩ := lnm (show w.heap.size < w2.heap.size by omega); clear b2
  have O2 := hH o2
  clear o2
  go_wp2_with fail
  have hl2 : (x.length : Int) ≤ 8 := by omega
  obtain ⟨n, hn⟩ : ∃ n, x.length = n := ⟨_, rfl⟩
  have HN := hH hn
  rw [hn] at hl hl2 HX c2_1 ⊢
  clear hn
  go_loopw [5, 6] (fun vb i wr => ∃ k : Nat, i = .int .i64 k ∧ k ≤ n ∧ OwnB wr w1.heap.size vb (putsU D ++ putsIs (x.take k)) ∧ Below w1.heap.size w2 wr) (fun _ i _ => n - (intOf i).toNat)
  case atStart => exact ⟨0, rfl, by omega, by simpa [putsIs] using O2.out, bw⟩
  case round =>
   obtain ⟨k, rfl, hk, ho, hbr⟩ := hrel
   have HO := hH ho
   have HBR := hH hbr
   have i1 : (0 : Int) ≤ (k : Int) := by omega
   have hsz := hbr.size
   have hlb : (putsU D ++ putsIs (x.take k)).length ≤ 99 := by
    have h1 := putsIs_len (x.take k)
    have h2 : (x.take k).length ≤ 8 := by rw [List.length_take]; omega
    have := HL1.out
    rw [List.length_append]
    omega
   have HLB := hH hlb
   have hbx := (HX.out.below (show Below w.heap.size w wr from by (repeat (first | with_reducible exact Below.refl _ _ | with_reducible refine Bs ?_ | with_reducible refine Ba ?_ | with_reducible refine Bd ?_ | with_reducible refine Bn ?_ | with_reducible refine Bt B2.out ?_ | with_reducible refine Bt HBR.out ?_))))
   have e0 : wr.cell? ⟨w.heap.size, 0, none⟩ = some (.int .i64 D) := (hbr.cell mJ).trans (by go_simp)
   have e1 : wr.cell? ⟨w.heap.size, 1, none⟩ = some (.slice xa n xc) := (hbr.cell mJ).trans (by go_simp)
   have e2 : wr.cell? ⟨w.heap.size, 2, none⟩ = some (.int .i64 P) := (hbr.cell mJ).trans (by go_simp)
   have e3 : wr.cell? ⟨w.heap.size, 3, none⟩ = some (.int .i64 Q) := (hbr.cell mJ).trans (by go_simp)
   have e4 : wr.cell? ⟨w.heap.size, 4, none⟩ = some (.bool s) := (hbr.cell mJ).trans (by go_simp)
   clear ho hlb
   by_cases hlt : k < n
   ·obtain ⟨z, hz⟩ := getElem?_ex (l := x) (k := k) (by rw [HN.out]; exact hlt)
    obtain ⟨b, o, hxa, hbw, c0⟩ := hbx.at hz
    subst hxa
    have HK := hH (putsIs_next hz)
    have HZ := hH (H64.out z (List.mem_of_getElem? hz))
    have i2 : (k : Int) < (n : Int) := by omega
    clear hbr hbx hz hbw
    go_wp2_with fail
    (with_reducible refine (rI_any z _ HZ.out).mono ?_)
    rintro e w4 ⟨v4, rfl, o4, b4⟩
    have hpl := putsU_len (n := zig z)
    have O4 := hH (o4.ints' (by unfold putsI; omega))
    have HO4 := hH (OwnB.below HO.out b4)
    have s4 : wr.heap.size ≤ w4.heap.size := sz b4
    have B4 := hH (Bc (B := w1.heap.size) (a := w2) (bx HBR.out) b4)
    have HPL := hH (show (putsI z).length ≤ 9 from hpl)
    have hbx4 := hH (show Below w.heap.size w w4 from by (repeat (first | with_reducible exact Below.refl _ _ | with_reducible refine Bs ?_ | with_reducible refine Ba ?_ | with_reducible refine Bd ?_ | with_reducible refine Bn ?_ | with_reducible refine Bt B2.out ?_ | with_reducible refine Bt B4.out ?_)))
    clear b4 o4 hpl
    go_wp2_with (at_builtin; go_must (refine appInts rfl _ _ 45 rfl Tryz.underlying45 eiU8 w1.heap.size (by rfl) HO4.out (by rfl) O4.out (by have := HLB.out; have := HPL.out; omega) (by omega) ?_))
    intro v5 w5 ho5 hb5 hg5
    have O5 := hH (show OwnB w5 w1.heap.size v5 (putsU D ++ putsIs (x.take (k + 1))) by (rw [HK.out]; unfold OwnB; simpa only [List.map_append, List.length_append, List.append_assoc, Nat.add_assoc] using ho5))
    have B5 := hH (Bc (B := w1.heap.size) (a := w2) B4.out hb5)
    have s5 := hb5.size
    clear ho5 hb5 hg5
    have q0 : w5.cell? ⟨w.heap.size, 0, none⟩ = some (.int .i64 D) := kc B5.out c2_0 (by omega)
    go_wp2_with fail
    go_roundw
    case rel => exact ⟨k + 1, by go_num, by omega, O5.out, B5.out⟩
    case measure => simp [intOf] <;> omega
   ·obtain rfl : k = n := by omega
    have htk : x.take k = x := List.take_of_length_le (by rw [HN.out]; exact Nat.le_refl _)
    rw [htk] at HO HLB
    have B3 := hH (show Below w.heap.size w wr from by (repeat (first | with_reducible exact Below.refl _ _ | with_reducible refine Bs ?_ | with_reducible refine Ba ?_ | with_reducible refine Bd ?_ | with_reducible refine Bn ?_ | with_reducible refine Bt B2.out ?_ | with_reducible refine Bt HBR.out ?_)))
    clear htk hbr hbx
    cases s with
    | false =>
     go_wp2_with (at_builtin; go_must (refine appInts rfl _ _ 45 rfl Tryz.underlying45 eiU8 w1.heap.size (by rfl) (OwnB.below HO.out bw) (by rfl) (newB1 0 wr _ _ (by rfl)) (by have hq := HLB.out; rw [List.length_append] at hq; simp; omega) (by simp; omega) ?_))
     intro v5 w5 ho5 hb5 _
     have O5 := hH (show OwnB w5 w1.heap.size v5 (putsU D ++ putsIs x ++ putsU 0) by (unfold OwnB; simpa [putsU, Nat.add_assoc] using ho5))
     have B5 := hH (show Below w.heap.size w w5 from Bc (bx B3.out) hb5 (by omega))
     clear ho5 hb5
     go_wp2_with fail
     go_ret
     have r2 : Ints .u8 w5 v5 (seenBytes D x P Q false dim) := by (rw [HSB.out]; simpa only [Bool.false_eq_true, if_false, Int.toNat_natCast] using O5.out.ints' (by have hq := HLB.out; have := putsU_len (n := 0); simp only [List.length_append] at hq ⊢; omega))
     exact ⟨_, rfl, r2, B5.out⟩
    | true =>
     go_wp2_with (at_builtin; go_must (refine appInts rfl _ _ 45 rfl Tryz.underlying45 eiU8 w1.heap.size (by rfl) (OwnB.below HO.out bw) (by rfl) (newB1 1 wr _ _ (by rfl)) (by have hq := HLB.out; rw [List.length_append] at hq; simp; omega) (by simp; omega) ?_))
     intro v5 w5 ho5 hb5 _
     have O5 := hH (show OwnB w5 w1.heap.size v5 (putsU D ++ putsIs x ++ putsU 1) by (unfold OwnB; simpa [putsU, Nat.add_assoc] using ho5))
     have B5 := hH (show Below w.heap.size w w5 from Bc (bx B3.out) hb5 (by omega))
     have s5 := hb5.size
     obtain ⟨y1, y2, y3⟩ := lnm (show w.heap.size < wr.heap.size by omega)
     have q2 : w5.cell? ⟨w.heap.size, 2, none⟩ = some (.int .i64 P) := kc hb5 (by go_simp) (by omega)
     have q3 : w5.cell? ⟨w.heap.size, 3, none⟩ = some (.int .i64 Q) := kc hb5 (by go_simp) (by omega)
     clear ho5 hb5
     go_wp2_with fail
     (with_reducible refine (rscore22_any P Q _).mono ?_)
     rintro e w6 ⟨v6, rfl, i6, b6⟩
     have I6 := hH i6
     have O6 := hH (OwnB.below O5.out b6)
     have B6 := hH (Bc (B := w.heap.size) (a := w) B5.out b6 (by simp at s5; omega))
     have s6 : w5.heap.size ≤ w6.heap.size := sz b6
     have SL := hH (scoreBytes_len (P, Q))
     have S5 := hH (show (putsU D ++ putsIs x ++ putsU 1).length ≤ 200 by (have hq := HLB.out; have := putsU_len (n := 1); simp only [List.length_append] at hq ⊢; omega))
     clear i6 b6
     go_wp2_with (at_builtin; go_must (refine appInts rfl _ _ 45 rfl Tryz.underlying45 eiU8 w1.heap.size (by rfl) O6.out (by rfl) I6.out (by have := S5.out; have := SL.out; omega) (by simp at s5; omega) ?_))
     intro v7 w7 ho7 hb7 _
     have O7 := hH (show OwnB w7 w1.heap.size v7 (putsU D ++ putsIs x ++ putsU 1 ++ scoreBytes (P, Q)) by (unfold OwnB; simpa [Nat.add_assoc] using ho7))
     have B7 := hH (show Below w.heap.size w w7 from Bc B6.out hb7 (by omega))
     clear ho7 hb7
     go_wp2_with fail
     go_ret
     have r2 : Ints .u8 w7 v7 (seenBytes D x P Q true dim) := by (rw [HSB.out]; simpa only [if_true, List.append_assoc, Int.toNat_natCast] using O7.out.ints' (by have h1 := S5.out; have h2 := SL.out; simp only [List.length_append] at h1 ⊢; omega))
     exact ⟨_, rfl, r2, B7.out⟩
end Go.Proofs.YtgobbecpnjelmaaGreat
