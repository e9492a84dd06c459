/-
  ItemE: Walks of item.PutAsk and of the reference's Ask.
  ItemR: Walks of item.PutConf and of the reference's numbers and Conf.
-/
import Derived.Test.YtjmjnkilgoelbaaKItemD
import Derived.Test.YtjmjnkilgoelbaaKItemO
namespace Go.Proofs.Ytjmjnkilgoelbaa
open Go.RowKit

def askBytes (k id n m : Int) (x : List Int) : List Int :=
  if askB k id n m x = true then putsU k.toNat ++ (if k = 1 then putsU id.toNat else []) ++ (if k = 1 ∨ k = 2 ∨ k = 7 then putsInts x else []) ++ (if k = 3 ∨ k = 4 then putsU n.toNat else []) ++ (if k = 3 then putsU m.toNat else []) else []

theorem newI1 (z : Int) (W : World) (T : TypeId) (b : Nat) (hb : b = W.heap.size) : Ints .i64 (W.alloc (.cells #[.int .i64 z] T)) (.slice (some ⟨b, 0, none⟩) 1 1) [z] :=
  Ints.new' .i64 W T #[.int .i64 z] [z] b 1 1 hb rfl rfl (by omega) (by omega)

theorem nats1_any (v : Value) (pre : List Int) (z : Int) (W : World) (b : Nat) (hb : b = W.heap.size) (h : Ints .u8 W v pre) (hz : 0 ≤ z ∧ z ≤ 9223372036854775807) (hl : pre.length ≤ 800000) :
    Calls Try.prog 94 #[v, .slice (some ⟨b, 0, none⟩) 1 1] (W.alloc (.cells #[.int .i64 z] 3)) fun e w' => ∃ v' l', e = .returned v' ∧ l' = pre ++ putsU z.toNat ∧ l'.length ≤ pre.length + 9 ∧ Ints .u8 w' v' l' ∧ Below W.heap.size W w' := by
  refine (nats_any v pre _ [z] _ (h.below (by (repeat (first | with_reducible exact Below.refl _ _ | with_reducible refine Bs ?_ | with_reducible refine Ba ?_ | with_reducible refine Bd ?_ | with_reducible refine Bn ?_)))) (newI1 z W 3 b hb) (by intro x hx; simp at hx; subst hx; exact hz) (by simp; omega)).mono ?_
  rintro e w' ⟨v', rfl, hi, hbl⟩
  refine ⟨v', _, rfl, rfl, ?_, ?_, below_tr (by (repeat (first | with_reducible exact Below.refl _ _ | with_reducible refine Bs ?_ | with_reducible refine Ba ?_ | with_reducible refine Bd ?_ | with_reducible refine Bn ?_))) (hbl.mono (by simp))⟩
  · have := putsU_len (n := z.toNat)
    rw [List.length_append]
    omega
  · simpa [natsB] using hi

theorem putInts1_any (vp : Value) (pre : List Int) (v : Value) (l : List Int) (w : World) (hp : Ints .u8 w vp pre) (h : Ints .i64 w v l) (h64 : ∀ x ∈ l, Ok64 x) (hl : l.length ≤ 8) (hpr : pre.length ≤ 10000) :
    Calls Try.prog 101 #[vp, v] w fun e w' => ∃ v' l', e = .returned v' ∧ l' = pre ++ putsInts l ∧ l'.length ≤ pre.length + 81 ∧ Ints .u8 w' v' l' ∧ Below w.heap.size w w' := by
  refine (putInts_any vp pre v l w hp h h64 (by omega) hpr).mono ?_
  rintro e w' ⟨v', rfl, ho, hbl⟩
  have e1 := putsIs_len l
  have e2 := putsU_len (n := l.length)
  have e3 : (pre ++ putsInts l).length ≤ pre.length + 81 := by
    unfold putsInts
    simp only [List.length_append]
    omega
  exact ⟨v', _, rfl, rfl, e3, (Ints.own ho (by omega)).2, hbl⟩

theorem askB_iff {k id n m : Int} {x : List Int} (h : askB k id n m x = true) : (1 ≤ k ∧ k ≤ 7) ∧ (0 ≤ id ∧ id ≤ 1099511627776) ∧ (0 ≤ n ∧ n ≤ 1099511627776) ∧ (0 ≤ m ∧ m ≤ 1099511627776) ∧ x.length ≤ 8 ∧ ∀ z ∈ x, Ok64 z := by
  unfold askB fewB xOk at h
  simp only [Bool.and_eq_true, decide_eq_true_eq, List.all_eq_true] at h
  obtain ⟨⟨⟨⟨⟨h1, h2⟩, h3⟩, h4⟩, h5, h6⟩, _⟩ := h
  refine ⟨h1, h2, h3, h4, h5, fun z hz => ?_⟩
  have := h6 z hz
  unfold Ok64
  omega

set_option maxRecDepth 100000 in
set_option maxHeartbeats 8000000 in
theorem putAsk_any (v : Value) (pre : List Int) (k id n m : Int) (vx : Value) (x : List Int) (w : World) (h : Ints .u8 w v pre) (hx : Ints .i64 w vx x) (hb : pre.length ≤ 9000) :
    Calls Try.prog 35 #[v, .agg #[.int .i64 k, .int .i64 id, vx, .int .i64 n, .int .i64 m]] w fun e w' => ∃ v', e = .returned v' ∧ Ints .u8 w' v' (pre ++ askBytes k id n m x) ∧ Below w.heap.size w w' := by
  have HP := Lib.hid h
  have HX := Lib.hid hx
  obtain ⟨pa, pc, rfl⟩ := h.shape
  obtain ⟨xa, xc, rfl⟩ := hx.shape
  have HI := Lib.hid (fun W (hW : Ints .i64 W (.slice xa x.length xc) x) => rightAsk_any k id n m _ x W hW)
  clear hx
  cases hs : askB k id n m x with
  | false =>
    have HC := Lib.hid (fun W (hW : Ints .u8 W (.slice pa pre.length pc) pre) => clone8_any _ pre W hW (by omega))
    have HSB := Lib.hid (show askBytes k id n m x = [] by unfold askBytes; rw [hs]; rfl)
    rw [hs] at HI
    clear hs h
    have HN := Lib.hid (show pre.length ≤ 9000 from hb)
    go_enter Try.func35, Try.ntmps35
    go_wp2_with fail
    (with_reducible refine (HI.out _ (HX.out.below (by (repeat (first | with_reducible exact Below.refl _ _ | with_reducible refine Bs ?_ | with_reducible refine Ba ?_ | with_reducible refine Bd ?_ | with_reducible refine Bn ?_))))).mono ?_); rintro e w1 ⟨rfl, b1⟩; have s1 : w.heap.size + 1 ≤ w1.heap.size := sz b1; have B1 := Lib.hid (Bc (B := w.heap.size) (a := w) (by (repeat (first | with_reducible exact Below.refl _ _ | with_reducible refine Bs ?_ | with_reducible refine Ba ?_ | with_reducible refine Bd ?_ | with_reducible refine Bn ?_))) b1); clear b1
    go_wp2_with fail
    (with_reducible refine (HC.out _ (HP.out.below (by (repeat (first | with_reducible exact Below.refl _ _ | with_reducible refine Bs ?_ | with_reducible refine Ba ?_ | with_reducible refine Bd ?_ | with_reducible refine Bn ?_ | with_reducible refine Bt B1.out ?_))))).mono ?_)
    rintro e w2 ⟨v2, rfl, o2, b2⟩
    have B2 := Lib.hid (below_tr B1.out (b2.mono (by omega)))
    go_wp2_with fail
    go_ret
    exact ⟨_, rfl, by rw [HSB.out, List.append_nil]; exact (Ints.own o2 (by have := HN.out; omega)).2, B2.out⟩
  | true =>
    obtain ⟨hk, ⟨i1, i2⟩, ⟨n1, n2⟩, ⟨m1, m2⟩, hl, h64⟩ := askB_iff hs
    have HL := Lib.hid hl
    have H64 := Lib.hid h64
    have HB := Lib.hid hb
    rw [hs] at HI
    have HI1 := Lib.hid (And.intro i1 (show id ≤ 9223372036854775807 by omega))
    have HN1 := Lib.hid (And.intro n1 (show n ≤ 9223372036854775807 by omega))
    have HM1 := Lib.hid (And.intro m1 (show m ≤ 9223372036854775807 by omega))
    clear h hl h64 hb i1 i2 n1 n2 m1 m2
    have HK := Lib.hid hs
    clear hs
    obtain rfl | rfl | rfl | rfl | rfl | rfl | rfl : k = 1 ∨ k = 2 ∨ k = 3 ∨ k = 4 ∨ k = 5 ∨ k = 6 ∨ k = 7 := by omega
    · have HN := Lib.hid (fun W => names_any 1 W)
      rw [show whatI 1 = 3 from rfl, show decide ((1 : Int) ≤ 1 ∧ (1 : Int) ≤ 7) = true from rfl] at HN
      have HSB := Lib.hid (show askBytes 1 id n m x = putsU (1 : Int).toNat ++ putsU id.toNat ++ putsInts x by unfold askBytes; rw [if_pos HK.out]; simp)
      obtain ⟨q1, q2, q3, q4⟩ := bits_what hk
      simp [whatI] at q1 q2 q3 q4
      clear hk HK
      go_enter Try.func35, Try.ntmps35
      go_wp2_with fail
      (with_reducible refine (HI.out _ (HX.out.below (by (repeat (first | with_reducible exact Below.refl _ _ | with_reducible refine Bs ?_ | with_reducible refine Ba ?_ | with_reducible refine Bd ?_ | with_reducible refine Bn ?_))))).mono ?_); rintro e w1 ⟨rfl, b1⟩; have s1 : w.heap.size + 1 ≤ w1.heap.size := sz b1; have B1 := Lib.hid (Bc (B := w.heap.size) (a := w) (by (repeat (first | with_reducible exact Below.refl _ _ | with_reducible refine Bs ?_ | with_reducible refine Ba ?_ | with_reducible refine Bd ?_ | with_reducible refine Bn ?_))) b1); obtain ⟨c1_0, c1_1, c1_2, c1_3, c1_4⟩ := k5 (w.heap.size) (.int .i64 1) (.int .i64 id) (.slice xa x.length xc) (.int .i64 n) (.int .i64 m) b1 (by and_intros <;> go_simp); obtain ⟨l1_0, n1_0, m1_0⟩ := lnm (show w.heap.size < w1.heap.size by omega); clear b1
      go_wp2_with fail
      (with_reducible refine (HN.out _).mono ?_)
      rintro e w9 ⟨rfl, rfl⟩
      go_wp2_with fail
      (with_reducible refine (nats1_any _ _ (1 : Int) _ _ (by rfl) (HP.out.below (by (repeat (first | with_reducible exact Below.refl _ _ | with_reducible refine Bs ?_ | with_reducible refine Ba ?_ | with_reducible refine Bd ?_ | with_reducible refine Bn ?_ | with_reducible refine Bt B1.out ?_)))) ⟨by decide, by decide⟩ (by have := HB.out; omega)).mono ?_); rintro e w2 ⟨v2, l2, rfl, e2, g2, i2, b2⟩; have s2 : w1.heap.size ≤ w2.heap.size := sz b2; have B2 := Lib.hid (Bc (B := w.heap.size) (a := w) (by (repeat (first | with_reducible exact Below.refl _ _ | with_reducible refine Bs ?_ | with_reducible refine Ba ?_ | with_reducible refine Bd ?_ | with_reducible refine Bn ?_ | with_reducible refine Bt B1.out ?_))) b2); obtain ⟨c2_0, c2_1, c2_2, c2_3, c2_4⟩ := k5 (w.heap.size) (.int .i64 1) (.int .i64 id) (.slice xa x.length xc) (.int .i64 n) (.int .i64 m) b2 (by and_intros <;> go_simp); obtain ⟨l2_0, n2_0, m2_0⟩ := lnm (show w.heap.size < w2.heap.size by omega); clear b2
      have G2 := Lib.hid (show l2.length ≤ 9081 by have := HB.out; omega)
      have I2 := Lib.hid i2; have E2 := Lib.hid e2; clear i2 e2 g2
      go_wp2_with fail
      (with_reducible refine (nats1_any _ _ id _ _ (by rfl) I2.out HI1.out (by have := G2.out; omega)).mono ?_); rintro e w3 ⟨v3, l3, rfl, e3, g3, i3, b3⟩; have s3 : w2.heap.size ≤ w3.heap.size := sz b3; have B3 := Lib.hid (Bc (B := w.heap.size) (a := w) (by (repeat (first | with_reducible exact Below.refl _ _ | with_reducible refine Bs ?_ | with_reducible refine Ba ?_ | with_reducible refine Bd ?_ | with_reducible refine Bn ?_ | with_reducible refine Bt B2.out ?_))) b3); obtain ⟨c3_0, c3_1, c3_2, c3_3, c3_4⟩ := k5 (w.heap.size) (.int .i64 1) (.int .i64 id) (.slice xa x.length xc) (.int .i64 n) (.int .i64 m) b3 (by and_intros <;> go_simp); obtain ⟨l3_0, n3_0, m3_0⟩ := lnm (show w.heap.size < w3.heap.size by omega); clear b3
      have G3 := Lib.hid (show l3.length ≤ 9162 by have := G2.out; omega)
      have I3 := Lib.hid i3; have E3 := Lib.hid e3; clear i3 e3 g3
      go_wp2_with fail
      (with_reducible refine (putInts1_any _ _ _ x _ I3.out (HX.out.below (by (repeat (first | with_reducible exact Below.refl _ _ | with_reducible refine Bs ?_ | with_reducible refine Ba ?_ | with_reducible refine Bd ?_ | with_reducible refine Bn ?_ | with_reducible refine Bt B3.out ?_)))) H64.out HL.out (by have := G3.out; omega)).mono ?_); rintro e w4 ⟨v4, l4, rfl, e4, g4, i4, b4⟩; have s4 : w3.heap.size ≤ w4.heap.size := sz b4; have B4 := Lib.hid (Bc (B := w.heap.size) (a := w) (by (repeat (first | with_reducible exact Below.refl _ _ | with_reducible refine Bs ?_ | with_reducible refine Ba ?_ | with_reducible refine Bd ?_ | with_reducible refine Bn ?_ | with_reducible refine Bt B3.out ?_))) b4); obtain ⟨c4_0, c4_1, c4_2, c4_3, c4_4⟩ := k5 (w.heap.size) (.int .i64 1) (.int .i64 id) (.slice xa x.length xc) (.int .i64 n) (.int .i64 m) b4 (by and_intros <;> go_simp); obtain ⟨l4_0, n4_0, m4_0⟩ := lnm (show w.heap.size < w4.heap.size by omega); clear b4
      have G4 := Lib.hid (show l4.length ≤ 9243 by have := G3.out; omega)
      have I4 := Lib.hid i4; have E4 := Lib.hid e4; clear i4 e4 g4
      go_wp2_with fail
      go_ret
      have r := I4.out
      rw [E4.out, E3.out, E2.out] at r
      have r2 : Ints .u8 w4 v4 (pre ++ askBytes 1 id n m x) := by (rw [HSB.out]; simpa only [List.append_assoc] using r)
      exact ⟨_, rfl, r2, B4.out⟩
    · have HN := Lib.hid (fun W => names_any 2 W)
      rw [show whatI 2 = 2 from rfl, show decide ((1 : Int) ≤ 2 ∧ (2 : Int) ≤ 7) = true from rfl] at HN
      have HSB := Lib.hid (show askBytes 2 id n m x = putsU (2 : Int).toNat ++ putsInts x by unfold askBytes; rw [if_pos HK.out]; simp)
      obtain ⟨q1, q2, q3, q4⟩ := bits_what hk
      simp [whatI] at q1 q2 q3 q4
      clear hk HK
      go_enter Try.func35, Try.ntmps35
      go_wp2_with fail
      (with_reducible refine (HI.out _ (HX.out.below (by (repeat (first | with_reducible exact Below.refl _ _ | with_reducible refine Bs ?_ | with_reducible refine Ba ?_ | with_reducible refine Bd ?_ | with_reducible refine Bn ?_))))).mono ?_); rintro e w1 ⟨rfl, b1⟩; have s1 : w.heap.size + 1 ≤ w1.heap.size := sz b1; have B1 := Lib.hid (Bc (B := w.heap.size) (a := w) (by (repeat (first | with_reducible exact Below.refl _ _ | with_reducible refine Bs ?_ | with_reducible refine Ba ?_ | with_reducible refine Bd ?_ | with_reducible refine Bn ?_))) b1); obtain ⟨c1_0, c1_1, c1_2, c1_3, c1_4⟩ := k5 (w.heap.size) (.int .i64 2) (.int .i64 id) (.slice xa x.length xc) (.int .i64 n) (.int .i64 m) b1 (by and_intros <;> go_simp); obtain ⟨l1_0, n1_0, m1_0⟩ := lnm (show w.heap.size < w1.heap.size by omega); clear b1
      go_wp2_with fail
      (with_reducible refine (HN.out _).mono ?_)
      rintro e w9 ⟨rfl, rfl⟩
      go_wp2_with fail
      (with_reducible refine (nats1_any _ _ (2 : Int) _ _ (by rfl) (HP.out.below (by (repeat (first | with_reducible exact Below.refl _ _ | with_reducible refine Bs ?_ | with_reducible refine Ba ?_ | with_reducible refine Bd ?_ | with_reducible refine Bn ?_ | with_reducible refine Bt B1.out ?_)))) ⟨by decide, by decide⟩ (by have := HB.out; omega)).mono ?_); rintro e w2 ⟨v2, l2, rfl, e2, g2, i2, b2⟩; have s2 : w1.heap.size ≤ w2.heap.size := sz b2; have B2 := Lib.hid (Bc (B := w.heap.size) (a := w) (by (repeat (first | with_reducible exact Below.refl _ _ | with_reducible refine Bs ?_ | with_reducible refine Ba ?_ | with_reducible refine Bd ?_ | with_reducible refine Bn ?_ | with_reducible refine Bt B1.out ?_))) b2); obtain ⟨c2_0, c2_1, c2_2, c2_3, c2_4⟩ := k5 (w.heap.size) (.int .i64 2) (.int .i64 id) (.slice xa x.length xc) (.int .i64 n) (.int .i64 m) b2 (by and_intros <;> go_simp); obtain ⟨l2_0, n2_0, m2_0⟩ := lnm (show w.heap.size < w2.heap.size by omega); clear b2
      have G2 := Lib.hid (show l2.length ≤ 9081 by have := HB.out; omega)
      have I2 := Lib.hid i2; have E2 := Lib.hid e2; clear i2 e2 g2
      go_wp2_with fail
      (with_reducible refine (putInts1_any _ _ _ x _ I2.out (HX.out.below (by (repeat (first | with_reducible exact Below.refl _ _ | with_reducible refine Bs ?_ | with_reducible refine Ba ?_ | with_reducible refine Bd ?_ | with_reducible refine Bn ?_ | with_reducible refine Bt B2.out ?_)))) H64.out HL.out (by have := G2.out; omega)).mono ?_); rintro e w3 ⟨v3, l3, rfl, e3, g3, i3, b3⟩; have s3 : w2.heap.size ≤ w3.heap.size := sz b3; have B3 := Lib.hid (Bc (B := w.heap.size) (a := w) (by (repeat (first | with_reducible exact Below.refl _ _ | with_reducible refine Bs ?_ | with_reducible refine Ba ?_ | with_reducible refine Bd ?_ | with_reducible refine Bn ?_ | with_reducible refine Bt B2.out ?_))) b3); obtain ⟨c3_0, c3_1, c3_2, c3_3, c3_4⟩ := k5 (w.heap.size) (.int .i64 2) (.int .i64 id) (.slice xa x.length xc) (.int .i64 n) (.int .i64 m) b3 (by and_intros <;> go_simp); obtain ⟨l3_0, n3_0, m3_0⟩ := lnm (show w.heap.size < w3.heap.size by omega); clear b3
      have G3 := Lib.hid (show l3.length ≤ 9162 by have := G2.out; omega)
      have I3 := Lib.hid i3; have E3 := Lib.hid e3; clear i3 e3 g3
      go_wp2_with fail
      go_ret
      have r := I3.out
      rw [E3.out, E2.out] at r
      have r2 : Ints .u8 w3 v3 (pre ++ askBytes 2 id n m x) := by (rw [HSB.out]; simpa only [List.append_assoc] using r)
      exact ⟨_, rfl, r2, B3.out⟩
    · have HN := Lib.hid (fun W => names_any 3 W)
      rw [show whatI 3 = 12 from rfl, show decide ((1 : Int) ≤ 3 ∧ (3 : Int) ≤ 7) = true from rfl] at HN
      have HSB := Lib.hid (show askBytes 3 id n m x = putsU (3 : Int).toNat ++ putsU n.toNat ++ putsU m.toNat by unfold askBytes; rw [if_pos HK.out]; simp)
      obtain ⟨q1, q2, q3, q4⟩ := bits_what hk
      simp [whatI] at q1 q2 q3 q4
      clear hk HK
      go_enter Try.func35, Try.ntmps35
      go_wp2_with fail
      (with_reducible refine (HI.out _ (HX.out.below (by (repeat (first | with_reducible exact Below.refl _ _ | with_reducible refine Bs ?_ | with_reducible refine Ba ?_ | with_reducible refine Bd ?_ | with_reducible refine Bn ?_))))).mono ?_); rintro e w1 ⟨rfl, b1⟩; have s1 : w.heap.size + 1 ≤ w1.heap.size := sz b1; have B1 := Lib.hid (Bc (B := w.heap.size) (a := w) (by (repeat (first | with_reducible exact Below.refl _ _ | with_reducible refine Bs ?_ | with_reducible refine Ba ?_ | with_reducible refine Bd ?_ | with_reducible refine Bn ?_))) b1); obtain ⟨c1_0, c1_1, c1_2, c1_3, c1_4⟩ := k5 (w.heap.size) (.int .i64 3) (.int .i64 id) (.slice xa x.length xc) (.int .i64 n) (.int .i64 m) b1 (by and_intros <;> go_simp); obtain ⟨l1_0, n1_0, m1_0⟩ := lnm (show w.heap.size < w1.heap.size by omega); clear b1
      go_wp2_with fail
      (with_reducible refine (HN.out _).mono ?_)
      rintro e w9 ⟨rfl, rfl⟩
      go_wp2_with fail
      (with_reducible refine (nats1_any _ _ (3 : Int) _ _ (by rfl) (HP.out.below (by (repeat (first | with_reducible exact Below.refl _ _ | with_reducible refine Bs ?_ | with_reducible refine Ba ?_ | with_reducible refine Bd ?_ | with_reducible refine Bn ?_ | with_reducible refine Bt B1.out ?_)))) ⟨by decide, by decide⟩ (by have := HB.out; omega)).mono ?_); rintro e w2 ⟨v2, l2, rfl, e2, g2, i2, b2⟩; have s2 : w1.heap.size ≤ w2.heap.size := sz b2; have B2 := Lib.hid (Bc (B := w.heap.size) (a := w) (by (repeat (first | with_reducible exact Below.refl _ _ | with_reducible refine Bs ?_ | with_reducible refine Ba ?_ | with_reducible refine Bd ?_ | with_reducible refine Bn ?_ | with_reducible refine Bt B1.out ?_))) b2); obtain ⟨c2_0, c2_1, c2_2, c2_3, c2_4⟩ := k5 (w.heap.size) (.int .i64 3) (.int .i64 id) (.slice xa x.length xc) (.int .i64 n) (.int .i64 m) b2 (by and_intros <;> go_simp); obtain ⟨l2_0, n2_0, m2_0⟩ := lnm (show w.heap.size < w2.heap.size by omega); clear b2
      have G2 := Lib.hid (show l2.length ≤ 9081 by have := HB.out; omega)
      have I2 := Lib.hid i2; have E2 := Lib.hid e2; clear i2 e2 g2
      go_wp2_with fail
      (with_reducible refine (nats1_any _ _ n _ _ (by rfl) I2.out HN1.out (by have := G2.out; omega)).mono ?_); rintro e w3 ⟨v3, l3, rfl, e3, g3, i3, b3⟩; have s3 : w2.heap.size ≤ w3.heap.size := sz b3; have B3 := Lib.hid (Bc (B := w.heap.size) (a := w) (by (repeat (first | with_reducible exact Below.refl _ _ | with_reducible refine Bs ?_ | with_reducible refine Ba ?_ | with_reducible refine Bd ?_ | with_reducible refine Bn ?_ | with_reducible refine Bt B2.out ?_))) b3); obtain ⟨c3_0, c3_1, c3_2, c3_3, c3_4⟩ := k5 (w.heap.size) (.int .i64 3) (.int .i64 id) (.slice xa x.length xc) (.int .i64 n) (.int .i64 m) b3 (by and_intros <;> go_simp); obtain ⟨l3_0, n3_0, m3_0⟩ := lnm (show w.heap.size < w3.heap.size by omega); clear b3
      have G3 := Lib.hid (show l3.length ≤ 9162 by have := G2.out; omega)
      have I3 := Lib.hid i3; have E3 := Lib.hid e3; clear i3 e3 g3
      go_wp2_with fail
      (with_reducible refine (nats1_any _ _ m _ _ (by rfl) I3.out HM1.out (by have := G3.out; omega)).mono ?_); rintro e w4 ⟨v4, l4, rfl, e4, g4, i4, b4⟩; have s4 : w3.heap.size ≤ w4.heap.size := sz b4; have B4 := Lib.hid (Bc (B := w.heap.size) (a := w) (by (repeat (first | with_reducible exact Below.refl _ _ | with_reducible refine Bs ?_ | with_reducible refine Ba ?_ | with_reducible refine Bd ?_ | with_reducible refine Bn ?_ | with_reducible refine Bt B3.out ?_))) b4); obtain ⟨c4_0, c4_1, c4_2, c4_3, c4_4⟩ := k5 (w.heap.size) (.int .i64 3) (.int .i64 id) (.slice xa x.length xc) (.int .i64 n) (.int .i64 m) b4 (by and_intros <;> go_simp); obtain ⟨l4_0, n4_0, m4_0⟩ := lnm (show w.heap.size < w4.heap.size by omega); clear b4
      have G4 := Lib.hid (show l4.length ≤ 9243 by have := G3.out; omega)
      have I4 := Lib.hid i4; have E4 := Lib.hid e4; clear i4 e4 g4
      go_wp2_with fail
      go_ret
      have r := I4.out
      rw [E4.out, E3.out, E2.out] at r
      have r2 : Ints .u8 w4 v4 (pre ++ askBytes 3 id n m x) := by (rw [HSB.out]; simpa only [List.append_assoc] using r)
      exact ⟨_, rfl, r2, B4.out⟩
    · have HN := Lib.hid (fun W => names_any 4 W)
      rw [show whatI 4 = 4 from rfl, show decide ((1 : Int) ≤ 4 ∧ (4 : Int) ≤ 7) = true from rfl] at HN
      have HSB := Lib.hid (show askBytes 4 id n m x = putsU (4 : Int).toNat ++ putsU n.toNat by unfold askBytes; rw [if_pos HK.out]; simp)
      obtain ⟨q1, q2, q3, q4⟩ := bits_what hk
      simp [whatI] at q1 q2 q3 q4
      clear hk HK
      go_enter Try.func35, Try.ntmps35
      go_wp2_with fail
      (with_reducible refine (HI.out _ (HX.out.below (by (repeat (first | with_reducible exact Below.refl _ _ | with_reducible refine Bs ?_ | with_reducible refine Ba ?_ | with_reducible refine Bd ?_ | with_reducible refine Bn ?_))))).mono ?_); rintro e w1 ⟨rfl, b1⟩; have s1 : w.heap.size + 1 ≤ w1.heap.size := sz b1; have B1 := Lib.hid (Bc (B := w.heap.size) (a := w) (by (repeat (first | with_reducible exact Below.refl _ _ | with_reducible refine Bs ?_ | with_reducible refine Ba ?_ | with_reducible refine Bd ?_ | with_reducible refine Bn ?_))) b1); obtain ⟨c1_0, c1_1, c1_2, c1_3, c1_4⟩ := k5 (w.heap.size) (.int .i64 4) (.int .i64 id) (.slice xa x.length xc) (.int .i64 n) (.int .i64 m) b1 (by and_intros <;> go_simp); obtain ⟨l1_0, n1_0, m1_0⟩ := lnm (show w.heap.size < w1.heap.size by omega); clear b1
      go_wp2_with fail
      (with_reducible refine (HN.out _).mono ?_)
      rintro e w9 ⟨rfl, rfl⟩
      go_wp2_with fail
      (with_reducible refine (nats1_any _ _ (4 : Int) _ _ (by rfl) (HP.out.below (by (repeat (first | with_reducible exact Below.refl _ _ | with_reducible refine Bs ?_ | with_reducible refine Ba ?_ | with_reducible refine Bd ?_ | with_reducible refine Bn ?_ | with_reducible refine Bt B1.out ?_)))) ⟨by decide, by decide⟩ (by have := HB.out; omega)).mono ?_); rintro e w2 ⟨v2, l2, rfl, e2, g2, i2, b2⟩; have s2 : w1.heap.size ≤ w2.heap.size := sz b2; have B2 := Lib.hid (Bc (B := w.heap.size) (a := w) (by (repeat (first | with_reducible exact Below.refl _ _ | with_reducible refine Bs ?_ | with_reducible refine Ba ?_ | with_reducible refine Bd ?_ | with_reducible refine Bn ?_ | with_reducible refine Bt B1.out ?_))) b2); obtain ⟨c2_0, c2_1, c2_2, c2_3, c2_4⟩ := k5 (w.heap.size) (.int .i64 4) (.int .i64 id) (.slice xa x.length xc) (.int .i64 n) (.int .i64 m) b2 (by and_intros <;> go_simp); obtain ⟨l2_0, n2_0, m2_0⟩ := lnm (show w.heap.size < w2.heap.size by omega); clear b2
      have G2 := Lib.hid (show l2.length ≤ 9081 by have := HB.out; omega)
      have I2 := Lib.hid i2; have E2 := Lib.hid e2; clear i2 e2 g2
      go_wp2_with fail
      (with_reducible refine (nats1_any _ _ n _ _ (by rfl) I2.out HN1.out (by have := G2.out; omega)).mono ?_); rintro e w3 ⟨v3, l3, rfl, e3, g3, i3, b3⟩; have s3 : w2.heap.size ≤ w3.heap.size := sz b3; have B3 := Lib.hid (Bc (B := w.heap.size) (a := w) (by (repeat (first | with_reducible exact Below.refl _ _ | with_reducible refine Bs ?_ | with_reducible refine Ba ?_ | with_reducible refine Bd ?_ | with_reducible refine Bn ?_ | with_reducible refine Bt B2.out ?_))) b3); obtain ⟨c3_0, c3_1, c3_2, c3_3, c3_4⟩ := k5 (w.heap.size) (.int .i64 4) (.int .i64 id) (.slice xa x.length xc) (.int .i64 n) (.int .i64 m) b3 (by and_intros <;> go_simp); obtain ⟨l3_0, n3_0, m3_0⟩ := lnm (show w.heap.size < w3.heap.size by omega); clear b3
      have G3 := Lib.hid (show l3.length ≤ 9162 by have := G2.out; omega)
      have I3 := Lib.hid i3; have E3 := Lib.hid e3; clear i3 e3 g3
      go_wp2_with fail
      go_ret
      have r := I3.out
      rw [E3.out, E2.out] at r
      have r2 : Ints .u8 w3 v3 (pre ++ askBytes 4 id n m x) := by (rw [HSB.out]; simpa only [List.append_assoc] using r)
      exact ⟨_, rfl, r2, B3.out⟩
    · have HN := Lib.hid (fun W => names_any 5 W)
      rw [show whatI 5 = 0 from rfl, show decide ((1 : Int) ≤ 5 ∧ (5 : Int) ≤ 7) = true from rfl] at HN
      have HSB := Lib.hid (show askBytes 5 id n m x = putsU (5 : Int).toNat by unfold askBytes; rw [if_pos HK.out]; simp)
      obtain ⟨q1, q2, q3, q4⟩ := bits_what hk
      simp [whatI] at q1 q2 q3 q4
      clear hk HK
      go_enter Try.func35, Try.ntmps35
      go_wp2_with fail
      (with_reducible refine (HI.out _ (HX.out.below (by (repeat (first | with_reducible exact Below.refl _ _ | with_reducible refine Bs ?_ | with_reducible refine Ba ?_ | with_reducible refine Bd ?_ | with_reducible refine Bn ?_))))).mono ?_); rintro e w1 ⟨rfl, b1⟩; have s1 : w.heap.size + 1 ≤ w1.heap.size := sz b1; have B1 := Lib.hid (Bc (B := w.heap.size) (a := w) (by (repeat (first | with_reducible exact Below.refl _ _ | with_reducible refine Bs ?_ | with_reducible refine Ba ?_ | with_reducible refine Bd ?_ | with_reducible refine Bn ?_))) b1); obtain ⟨c1_0, c1_1, c1_2, c1_3, c1_4⟩ := k5 (w.heap.size) (.int .i64 5) (.int .i64 id) (.slice xa x.length xc) (.int .i64 n) (.int .i64 m) b1 (by and_intros <;> go_simp); obtain ⟨l1_0, n1_0, m1_0⟩ := lnm (show w.heap.size < w1.heap.size by omega); clear b1
      go_wp2_with fail
      (with_reducible refine (HN.out _).mono ?_)
      rintro e w9 ⟨rfl, rfl⟩
      go_wp2_with fail
      (with_reducible refine (nats1_any _ _ (5 : Int) _ _ (by rfl) (HP.out.below (by (repeat (first | with_reducible exact Below.refl _ _ | with_reducible refine Bs ?_ | with_reducible refine Ba ?_ | with_reducible refine Bd ?_ | with_reducible refine Bn ?_ | with_reducible refine Bt B1.out ?_)))) ⟨by decide, by decide⟩ (by have := HB.out; omega)).mono ?_); rintro e w2 ⟨v2, l2, rfl, e2, g2, i2, b2⟩; have s2 : w1.heap.size ≤ w2.heap.size := sz b2; have B2 := Lib.hid (Bc (B := w.heap.size) (a := w) (by (repeat (first | with_reducible exact Below.refl _ _ | with_reducible refine Bs ?_ | with_reducible refine Ba ?_ | with_reducible refine Bd ?_ | with_reducible refine Bn ?_ | with_reducible refine Bt B1.out ?_))) b2); obtain ⟨c2_0, c2_1, c2_2, c2_3, c2_4⟩ := k5 (w.heap.size) (.int .i64 5) (.int .i64 id) (.slice xa x.length xc) (.int .i64 n) (.int .i64 m) b2 (by and_intros <;> go_simp); obtain ⟨l2_0, n2_0, m2_0⟩ := lnm (show w.heap.size < w2.heap.size by omega); clear b2
      have G2 := Lib.hid (show l2.length ≤ 9081 by have := HB.out; omega)
      have I2 := Lib.hid i2; have E2 := Lib.hid e2; clear i2 e2 g2
      go_wp2_with fail
      go_ret
      have r := I2.out
      rw [E2.out] at r
      have r2 : Ints .u8 w2 v2 (pre ++ askBytes 5 id n m x) := by (rw [HSB.out]; simpa only [List.append_assoc] using r)
      exact ⟨_, rfl, r2, B2.out⟩
    · have HN := Lib.hid (fun W => names_any 6 W)
      rw [show whatI 6 = 0 from rfl, show decide ((1 : Int) ≤ 6 ∧ (6 : Int) ≤ 7) = true from rfl] at HN
      have HSB := Lib.hid (show askBytes 6 id n m x = putsU (6 : Int).toNat by unfold askBytes; rw [if_pos HK.out]; simp)
      obtain ⟨q1, q2, q3, q4⟩ := bits_what hk
      simp [whatI] at q1 q2 q3 q4
      clear hk HK
      go_enter Try.func35, Try.ntmps35
      go_wp2_with fail
      (with_reducible refine (HI.out _ (HX.out.below (by (repeat (first | with_reducible exact Below.refl _ _ | with_reducible refine Bs ?_ | with_reducible refine Ba ?_ | with_reducible refine Bd ?_ | with_reducible refine Bn ?_))))).mono ?_); rintro e w1 ⟨rfl, b1⟩; have s1 : w.heap.size + 1 ≤ w1.heap.size := sz b1; have B1 := Lib.hid (Bc (B := w.heap.size) (a := w) (by (repeat (first | with_reducible exact Below.refl _ _ | with_reducible refine Bs ?_ | with_reducible refine Ba ?_ | with_reducible refine Bd ?_ | with_reducible refine Bn ?_))) b1); obtain ⟨c1_0, c1_1, c1_2, c1_3, c1_4⟩ := k5 (w.heap.size) (.int .i64 6) (.int .i64 id) (.slice xa x.length xc) (.int .i64 n) (.int .i64 m) b1 (by and_intros <;> go_simp); obtain ⟨l1_0, n1_0, m1_0⟩ := lnm (show w.heap.size < w1.heap.size by omega); clear b1
      go_wp2_with fail
      (with_reducible refine (HN.out _).mono ?_)
      rintro e w9 ⟨rfl, rfl⟩
      go_wp2_with fail
      (with_reducible refine (nats1_any _ _ (6 : Int) _ _ (by rfl) (HP.out.below (by (repeat (first | with_reducible exact Below.refl _ _ | with_reducible refine Bs ?_ | with_reducible refine Ba ?_ | with_reducible refine Bd ?_ | with_reducible refine Bn ?_ | with_reducible refine Bt B1.out ?_)))) ⟨by decide, by decide⟩ (by have := HB.out; omega)).mono ?_); rintro e w2 ⟨v2, l2, rfl, e2, g2, i2, b2⟩; have s2 : w1.heap.size ≤ w2.heap.size := sz b2; have B2 := Lib.hid (Bc (B := w.heap.size) (a := w) (by (repeat (first | with_reducible exact Below.refl _ _ | with_reducible refine Bs ?_ | with_reducible refine Ba ?_ | with_reducible refine Bd ?_ | with_reducible refine Bn ?_ | with_reducible refine Bt B1.out ?_))) b2); obtain ⟨c2_0, c2_1, c2_2, c2_3, c2_4⟩ := k5 (w.heap.size) (.int .i64 6) (.int .i64 id) (.slice xa x.length xc) (.int .i64 n) (.int .i64 m) b2 (by and_intros <;> go_simp); obtain ⟨l2_0, n2_0, m2_0⟩ := lnm (show w.heap.size < w2.heap.size by omega); clear b2
      have G2 := Lib.hid (show l2.length ≤ 9081 by have := HB.out; omega)
      have I2 := Lib.hid i2; have E2 := Lib.hid e2; clear i2 e2 g2
      go_wp2_with fail
      go_ret
      have r := I2.out
      rw [E2.out] at r
      have r2 : Ints .u8 w2 v2 (pre ++ askBytes 6 id n m x) := by (rw [HSB.out]; simpa only [List.append_assoc] using r)
      exact ⟨_, rfl, r2, B2.out⟩
    · have HN := Lib.hid (fun W => names_any 7 W)
      rw [show whatI 7 = 2 from rfl, show decide ((1 : Int) ≤ 7 ∧ (7 : Int) ≤ 7) = true from rfl] at HN
      have HSB := Lib.hid (show askBytes 7 id n m x = putsU (7 : Int).toNat ++ putsInts x by unfold askBytes; rw [if_pos HK.out]; simp)
      obtain ⟨q1, q2, q3, q4⟩ := bits_what hk
      simp [whatI] at q1 q2 q3 q4
      clear hk HK
      go_enter Try.func35, Try.ntmps35
      go_wp2_with fail
      (with_reducible refine (HI.out _ (HX.out.below (by (repeat (first | with_reducible exact Below.refl _ _ | with_reducible refine Bs ?_ | with_reducible refine Ba ?_ | with_reducible refine Bd ?_ | with_reducible refine Bn ?_))))).mono ?_); rintro e w1 ⟨rfl, b1⟩; have s1 : w.heap.size + 1 ≤ w1.heap.size := sz b1; have B1 := Lib.hid (Bc (B := w.heap.size) (a := w) (by (repeat (first | with_reducible exact Below.refl _ _ | with_reducible refine Bs ?_ | with_reducible refine Ba ?_ | with_reducible refine Bd ?_ | with_reducible refine Bn ?_))) b1); obtain ⟨c1_0, c1_1, c1_2, c1_3, c1_4⟩ := k5 (w.heap.size) (.int .i64 7) (.int .i64 id) (.slice xa x.length xc) (.int .i64 n) (.int .i64 m) b1 (by and_intros <;> go_simp); obtain ⟨l1_0, n1_0, m1_0⟩ := lnm (show w.heap.size < w1.heap.size by omega); clear b1
      go_wp2_with fail
      (with_reducible refine (HN.out _).mono ?_)
      rintro e w9 ⟨rfl, rfl⟩
      go_wp2_with fail
      (with_reducible refine (nats1_any _ _ (7 : Int) _ _ (by rfl) (HP.out.below (by (repeat (first | with_reducible exact Below.refl _ _ | with_reducible refine Bs ?_ | with_reducible refine Ba ?_ | with_reducible refine Bd ?_ | with_reducible refine Bn ?_ | with_reducible refine Bt B1.out ?_)))) ⟨by decide, by decide⟩ (by have := HB.out; omega)).mono ?_); rintro e w2 ⟨v2, l2, rfl, e2, g2, i2, b2⟩; have s2 : w1.heap.size ≤ w2.heap.size := sz b2; have B2 := Lib.hid (Bc (B := w.heap.size) (a := w) (by (repeat (first | with_reducible exact Below.refl _ _ | with_reducible refine Bs ?_ | with_reducible refine Ba ?_ | with_reducible refine Bd ?_ | with_reducible refine Bn ?_ | with_reducible refine Bt B1.out ?_))) b2); obtain ⟨c2_0, c2_1, c2_2, c2_3, c2_4⟩ := k5 (w.heap.size) (.int .i64 7) (.int .i64 id) (.slice xa x.length xc) (.int .i64 n) (.int .i64 m) b2 (by and_intros <;> go_simp); obtain ⟨l2_0, n2_0, m2_0⟩ := lnm (show w.heap.size < w2.heap.size by omega); clear b2
      have G2 := Lib.hid (show l2.length ≤ 9081 by have := HB.out; omega)
      have I2 := Lib.hid i2; have E2 := Lib.hid e2; clear i2 e2 g2
      go_wp2_with fail
      (with_reducible refine (putInts1_any _ _ _ x _ I2.out (HX.out.below (by (repeat (first | with_reducible exact Below.refl _ _ | with_reducible refine Bs ?_ | with_reducible refine Ba ?_ | with_reducible refine Bd ?_ | with_reducible refine Bn ?_ | with_reducible refine Bt B2.out ?_)))) H64.out HL.out (by have := G2.out; omega)).mono ?_); rintro e w3 ⟨v3, l3, rfl, e3, g3, i3, b3⟩; have s3 : w2.heap.size ≤ w3.heap.size := sz b3; have B3 := Lib.hid (Bc (B := w.heap.size) (a := w) (by (repeat (first | with_reducible exact Below.refl _ _ | with_reducible refine Bs ?_ | with_reducible refine Ba ?_ | with_reducible refine Bd ?_ | with_reducible refine Bn ?_ | with_reducible refine Bt B2.out ?_))) b3); obtain ⟨c3_0, c3_1, c3_2, c3_3, c3_4⟩ := k5 (w.heap.size) (.int .i64 7) (.int .i64 id) (.slice xa x.length xc) (.int .i64 n) (.int .i64 m) b3 (by and_intros <;> go_simp); obtain ⟨l3_0, n3_0, m3_0⟩ := lnm (show w.heap.size < w3.heap.size by omega); clear b3
      have G3 := Lib.hid (show l3.length ≤ 9162 by have := G2.out; omega)
      have I3 := Lib.hid i3; have E3 := Lib.hid e3; clear i3 e3 g3
      go_wp2_with fail
      go_ret
      have r := I3.out
      rw [E3.out, E2.out] at r
      have r2 : Ints .u8 w3 v3 (pre ++ askBytes 7 id n m x) := by (rw [HSB.out]; simpa only [List.append_assoc] using r)
      exact ⟨_, rfl, r2, B3.out⟩
end Go.Proofs.Ytjmjnkilgoelbaa

namespace Go.Proofs.Ytjmjnkilgoelbaa
open Go.RowKit

def confBytes (c0 c1 c2 c3 c4 c5 c6 c7 c8 c9 c10 : Int) : List Int := if confB11 c0 c1 c2 c3 c4 c5 c6 c7 c8 c9 c10 = true then natsB [c0, c1, c2, c3, c4, c5, c6, c7, c8, c9, c10] else []

theorem confB11_pos (c0 c1 c2 c3 c4 c5 c6 c7 c8 c9 c10 : Int) (h : confB11 c0 c1 c2 c3 c4 c5 c6 c7 c8 c9 c10 = true) : ∀ x ∈ [c0, c1, c2, c3, c4, c5, c6, c7, c8, c9, c10], 0 ≤ x ∧ x ≤ 1000 := by
  have hh := (confB11_iff c0 c1 c2 c3 c4 c5 c6 c7 c8 c9 c10).1 h
  intro x hx
  simp at hx
  rcases hx with rfl | rfl | rfl | rfl | rfl | rfl | rfl | rfl | rfl | rfl | rfl <;> omega

theorem newI11 (c0 c1 c2 c3 c4 c5 c6 c7 c8 c9 c10 : Int) (W : World) (T : TypeId) (b : Nat) (hb : b = W.heap.size) : Ints .i64 (W.alloc (.cells #[.int .i64 c0, .int .i64 c1, .int .i64 c2, .int .i64 c3, .int .i64 c4, .int .i64 c5, .int .i64 c6, .int .i64 c7, .int .i64 c8, .int .i64 c9, .int .i64 c10] T)) (.slice (some ⟨b, 0, none⟩) 11 11) [c0, c1, c2, c3, c4, c5, c6, c7, c8, c9, c10] :=
  Ints.new' .i64 W T #[.int .i64 c0, .int .i64 c1, .int .i64 c2, .int .i64 c3, .int .i64 c4, .int .i64 c5, .int .i64 c6, .int .i64 c7, .int .i64 c8, .int .i64 c9, .int .i64 c10] [c0, c1, c2, c3, c4, c5, c6, c7, c8, c9, c10] b 11 11 hb rfl rfl (by omega) (by omega)

set_option maxRecDepth 100000 in
set_option maxHeartbeats 16000000 in
theorem putConf_any (v : Value) (pre : List Int) (c0 c1 c2 c3 c4 c5 c6 c7 c8 c9 c10 : Int) (w : World) (hw : Ok64 c7) (h : Ints .u8 w v pre) (hb : pre.length ≤ 9000) :
    Calls Try.prog 42 #[v, .agg #[.int .i64 c0, .int .i64 c1, .int .i64 c2, .int .i64 c3, .int .i64 c4, .int .i64 c5, .int .i64 c6, .int .i64 c7, .int .i64 c8, .int .i64 c9, .int .i64 c10]] w fun e w' => ∃ v', e = .returned v' ∧ Ints .u8 w' v' (pre ++ confBytes c0 c1 c2 c3 c4 c5 c6 c7 c8 c9 c10) ∧ Below w.heap.size w w' := by
  have HX := Lib.hid h
  obtain ⟨pa, pc, rfl⟩ := h.shape
  have HI := Lib.hid (fun W => sright_any c0 c1 c2 c3 c4 c5 c6 c7 c8 c9 c10 W hw)
  cases hs : confB11 c0 c1 c2 c3 c4 c5 c6 c7 c8 c9 c10 with
  | false =>
    have HC := Lib.hid (fun W (hW : Ints .u8 W (.slice pa pre.length pc) pre) => clone8_any _ pre W hW (by omega))
    have HSB := Lib.hid (show confBytes c0 c1 c2 c3 c4 c5 c6 c7 c8 c9 c10 = [] by unfold confBytes; rw [hs]; rfl)
    rw [hs] at HI
    clear hs h
    have HN := Lib.hid (show pre.length ≤ 9000 from hb)
    go_enter Try.func42, Try.ntmps42
    go_wp2_with fail
    (with_reducible refine (HI.out _).mono ?_); rintro e w1 ⟨rfl, b1⟩; have s1 : w.heap.size + 1 ≤ w1.heap.size := sz b1; have B1 := Lib.hid (Bc (B := w.heap.size) (a := w) (by (repeat (first | with_reducible exact Below.refl _ _ | with_reducible refine Bs ?_ | with_reducible refine Ba ?_ | with_reducible refine Bd ?_ | with_reducible refine Bn ?_))) b1); clear b1
    go_wp2_with fail
    (with_reducible refine (HC.out _ (HX.out.below (by (repeat (first | with_reducible exact Below.refl _ _ | with_reducible refine Bs ?_ | with_reducible refine Ba ?_ | with_reducible refine Bd ?_ | with_reducible refine Bn ?_ | with_reducible refine Bt B1.out ?_))))).mono ?_)
    rintro e w2 ⟨v2, rfl, o2, b2⟩
    have B2 := Lib.hid (below_tr B1.out (b2.mono (by omega)))
    go_wp2_with fail
    go_ret
    exact ⟨_, rfl, by rw [HSB.out, List.append_nil]; exact (Ints.own o2 (by have := HN.out; omega)).2, B2.out⟩
  | true =>
    have hr := confB11_pos c0 c1 c2 c3 c4 c5 c6 c7 c8 c9 c10 hs
    have HN2 := Lib.hid (fun (vl : Value) W (hW : Ints .u8 W (.slice pa pre.length pc) pre) (hl : Ints .i64 W vl [c0, c1, c2, c3, c4, c5, c6, c7, c8, c9, c10]) => nats_any _ pre vl [c0, c1, c2, c3, c4, c5, c6, c7, c8, c9, c10] W hW hl (by intro x hx; have := hr x hx; omega) (by simp; omega))
    have HSB := Lib.hid (show confBytes c0 c1 c2 c3 c4 c5 c6 c7 c8 c9 c10 = natsB [c0, c1, c2, c3, c4, c5, c6, c7, c8, c9, c10] by unfold confBytes; rw [if_pos hs])
    rw [hs] at HI
    clear hs h hr hb hw
    generalize pre.length = n at *
    go_enter Try.func42, Try.ntmps42
    go_wp2_with fail
    (with_reducible refine (HI.out _).mono ?_); rintro e w1 ⟨rfl, b1⟩; have s1 : w.heap.size + 1 ≤ w1.heap.size := sz b1; have B1 := Lib.hid (Bc (B := w.heap.size) (a := w) (by (repeat (first | with_reducible exact Below.refl _ _ | with_reducible refine Bs ?_ | with_reducible refine Ba ?_ | with_reducible refine Bd ?_ | with_reducible refine Bn ?_))) b1); obtain ⟨c1_0, c1_1, c1_2, c1_3, c1_4, c1_5, c1_6, c1_7, c1_8, c1_9, c1_10⟩ := k11 (w.heap.size) (.int .i64 c0) (.int .i64 c1) (.int .i64 c2) (.int .i64 c3) (.int .i64 c4) (.int .i64 c5) (.int .i64 c6) (.int .i64 c7) (.int .i64 c8) (.int .i64 c9) (.int .i64 c10) b1 (by and_intros <;> go_simp); obtain ⟨l1_0, n1_0, m1_0⟩ := lnm (show w.heap.size < w1.heap.size by omega); clear b1
    go_wp2_with fail
    (with_reducible refine (HN2.out _ _ ?_ (newI11 c0 c1 c2 c3 c4 c5 c6 c7 c8 c9 c10 w1 3 w1.heap.size rfl)).mono ?_)
    · exact HX.out.below (by (repeat (first | with_reducible exact Below.refl _ _ | with_reducible refine Bs ?_ | with_reducible refine Ba ?_ | with_reducible refine Bd ?_ | with_reducible refine Bn ?_ | with_reducible refine Bt B1.out ?_)))
    rintro e w2 ⟨v2, rfl, i2, b2⟩
    have I2 := Lib.hid i2
    have B2 := Lib.hid (Bc (B := w.heap.size) (a := w) (by (repeat (first | with_reducible exact Below.refl _ _ | with_reducible refine Bs ?_ | with_reducible refine Ba ?_ | with_reducible refine Bd ?_ | with_reducible refine Bn ?_ | with_reducible refine Bt B1.out ?_))) b2)
    clear i2 b2
    go_wp2_with fail
    go_ret
    exact ⟨_, rfl, by rw [HSB.out]; exact I2.out, B2.out⟩

set_option maxRecDepth 100000 in
set_option maxHeartbeats 16000000 in
theorem rnumbers_any (c0 c1 c2 c3 c4 c5 c6 c7 c8 c9 c10 : Int) (w : World) :
    Calls Try.prog 112 #[.agg #[.int .i64 c0, .int .i64 c1, .int .i64 c2, .int .i64 c3, .int .i64 c4, .int .i64 c5, .int .i64 c6, .int .i64 c7, .int .i64 c8, .int .i64 c9, .int .i64 c10]] w fun e w' => ∃ v', e = .returned v' ∧ Ints .i64 w' v' [c0, c1, c2, c3, c4, c5, c6, c7, c8, c9, c10] ∧ Below w.heap.size w w' := by
  go_enter Try.func112, Try.ntmps112
  go_wp2_with fail
  go_ret
  exact ⟨_, rfl, newI11 c0 c1 c2 c3 c4 c5 c6 c7 c8 c9 c10 _ 3 _ (by simp), by (repeat (first | with_reducible exact Below.refl _ _ | with_reducible refine Bs ?_ | with_reducible refine Ba ?_ | with_reducible refine Bd ?_ | with_reducible refine Bn ?_))⟩

set_option maxRecDepth 100000 in
set_option maxHeartbeats 16000000 in
theorem rconf22_any (c0 c1 c2 c3 c4 c5 c6 c7 c8 c9 c10 : Int) (w : World) :
    Calls Try.prog 43 #[.agg #[.int .i64 c0, .int .i64 c1, .int .i64 c2, .int .i64 c3, .int .i64 c4, .int .i64 c5, .int .i64 c6, .int .i64 c7, .int .i64 c8, .int .i64 c9, .int .i64 c10]] w fun e w' => ∃ v', e = .returned v' ∧ Ints .u8 w' v' (confBytes c0 c1 c2 c3 c4 c5 c6 c7 c8 c9 c10) ∧ Below w.heap.size w w' := by
  have HI := Lib.hid (fun W => rright20_any c0 c1 c2 c3 c4 c5 c6 c7 c8 c9 c10 W)
  cases hs : confB11 c0 c1 c2 c3 c4 c5 c6 c7 c8 c9 c10 with
  | false =>
    have HSB := Lib.hid (show confBytes c0 c1 c2 c3 c4 c5 c6 c7 c8 c9 c10 = [] by unfold confBytes; rw [hs]; rfl)
    rw [hs] at HI
    clear hs
    go_enter Try.func43, Try.ntmps43
    go_wp2_with fail
    (with_reducible refine (HI.out _).mono ?_); rintro e w1 ⟨rfl, b1⟩; have s1 : w.heap.size + 1 ≤ w1.heap.size := sz b1; have B1 := Lib.hid (Bc (B := w.heap.size) (a := w) (by (repeat (first | with_reducible exact Below.refl _ _ | with_reducible refine Bs ?_ | with_reducible refine Ba ?_ | with_reducible refine Bd ?_ | with_reducible refine Bn ?_))) b1); clear b1
    go_wp2_with fail
    go_ret
    exact ⟨_, rfl, by rw [HSB.out]; exact ints_nil _ _ _ _ (by omega), B1.out⟩
  | true =>
    have HPOS := Lib.hid (confB11_pos c0 c1 c2 c3 c4 c5 c6 c7 c8 c9 c10 hs)
    have HSB := Lib.hid (show confBytes c0 c1 c2 c3 c4 c5 c6 c7 c8 c9 c10 = natsB [c0, c1, c2, c3, c4, c5, c6, c7, c8, c9, c10] by unfold confBytes; rw [if_pos hs])
    have HNU := Lib.hid (fun W => rnumbers_any c0 c1 c2 c3 c4 c5 c6 c7 c8 c9 c10 W)
    obtain ⟨ls, hls⟩ : ∃ ls, [c0, c1, c2, c3, c4, c5, c6, c7, c8, c9, c10] = ls := ⟨_, rfl⟩
    have hln : ls.length = 11 := by rw [← hls]; rfl
    rw [hls] at HPOS HSB HNU
    rw [hs] at HI
    have HLN := Lib.hid hln
    clear hs hls hln
    go_enter Try.func43, Try.ntmps43
    go_wp2_with fail
    (with_reducible refine (HI.out _).mono ?_); rintro e w1 ⟨rfl, b1⟩; have s1 : w.heap.size + 1 ≤ w1.heap.size := sz b1; have B1 := Lib.hid (Bc (B := w.heap.size) (a := w) (by (repeat (first | with_reducible exact Below.refl _ _ | with_reducible refine Bs ?_ | with_reducible refine Ba ?_ | with_reducible refine Bd ?_ | with_reducible refine Bn ?_))) b1); obtain ⟨c1_0, c1_1, c1_2, c1_3, c1_4, c1_5, c1_6, c1_7, c1_8, c1_9, c1_10⟩ := k11 (w.heap.size) (.int .i64 c0) (.int .i64 c1) (.int .i64 c2) (.int .i64 c3) (.int .i64 c4) (.int .i64 c5) (.int .i64 c6) (.int .i64 c7) (.int .i64 c8) (.int .i64 c9) (.int .i64 c10) b1 (by and_intros <;> go_simp); obtain ⟨l1_0, n1_0, m1_0⟩ := lnm (show w.heap.size < w1.heap.size by omega); clear b1
    go_wp2_with fail
    (with_reducible refine (HNU.out _).mono ?_); rintro e w2 ⟨v2, rfl, i2, b2⟩; have s2 : w1.heap.size ≤ w2.heap.size := sz b2; have B2 := Lib.hid (Bc (B := w.heap.size) (a := w) (by (repeat (first | with_reducible exact Below.refl _ _ | with_reducible refine Bs ?_ | with_reducible refine Ba ?_ | with_reducible refine Bd ?_ | with_reducible refine Bn ?_ | with_reducible refine Bt B1.out ?_))) b2); clear b2
    obtain ⟨ad, c, rfl, q1, q2, q3, hx⟩ := i2
    have HX := Lib.hid hx
    rw [HLN.out] at q1
    clear hx q3
    rw [HLN.out]
    go_wp2_with fail
    go_loopw [3, 5] (fun b i wr => ∃ k : Nat, i = .int .i64 k ∧ k ≤ 11 ∧ OwnB wr w2.heap.size b (natsB (ls.take k)) ∧ Below w2.heap.size w2 wr) (fun _ i _ => 11 - (intOf i).toNat)
    case atStart => exact ⟨0, rfl, by omega, World.ownsRow_nil _ _ _ _, by (repeat (first | with_reducible exact Below.refl _ _ | with_reducible refine Bs ?_ | with_reducible refine Ba ?_ | with_reducible refine Bd ?_ | with_reducible refine Bn ?_))⟩
    case round =>
      obtain ⟨k, rfl, hk, ho, hbr⟩ := hrel
      have HO := Lib.hid ho
      have HBR := Lib.hid hbr
      have hsz := hbr.size
      have hlb : (natsB (ls.take k)).length ≤ 99 := by
        have := natsB_len (ls.take k)
        rw [List.length_take] at this
        omega
      have HLB := Lib.hid hlb
      clear ho hlb
      by_cases hlt : k < 11
      · obtain ⟨x, hx⟩ := getElem?_ex (l := ls) (k := k) (by rw [HLN.out]; exact hlt)
        obtain ⟨b, o, rfl, hbw, c0⟩ := HX.out k x hx
        have e0 := (hbr.cell (p := ⟨b, o + k, none⟩) hbw).trans c0
        have hx0 := HPOS.out x (List.mem_of_getElem? hx)
        obtain ⟨m, rfl⟩ : ∃ m : Nat, x = (m : Int) := ⟨x.toNat, by omega⟩
        have HK := Lib.hid (natsB_next hx)
        have hm : (m : Int) ≤ 18446744073709551615 := by omega
        have i2 : (k : Int) < 11 := by omega
        have i1 : (0 : Int) ≤ (k : Int) := by omega
        clear hbr c0 hx hx0
        go_wp2_with fail
        (with_reducible refine (rU_any m _ (by omega)).mono ?_)
        rintro e w4 ⟨v4, rfl, o4, b4⟩
        have hpl := putsU_len (n := m)
        have O4 := Lib.hid (o4.ints' (by omega))
        have HO4 := Lib.hid (OwnB.below HO.out b4)
        have s4 : wr.heap.size ≤ w4.heap.size := sz b4
        have B4 := Lib.hid (Bc (B := w2.heap.size) (a := w2) (by (repeat (first | with_reducible exact Below.refl _ _ | with_reducible refine Bs ?_ | with_reducible refine Ba ?_ | with_reducible refine Bd ?_ | with_reducible refine Bn ?_ | with_reducible refine Bt HBR.out ?_))) b4)
        clear b4 o4
        go_wp2_with (at_builtin; go_must (refine appInts rfl _ _ 48 rfl Try.underlying48 eiU8 w2.heap.size (by rfl) HO4.out (by rfl) O4.out (by have := HLB.out; omega) (by omega) ?_))
        intro v5 w5 ho5 hb5 _
        have O5 := Lib.hid (show OwnB w5 w2.heap.size v5 (natsB (ls.take (k + 1))) by (rw [HK.out]; unfold OwnB; rw [List.map_append, List.length_append]; exact ho5))
        have B5 := Lib.hid (Bc (B := w2.heap.size) (a := w2) B4.out hb5)
        clear ho5 hb5
        go_wp2
        go_roundw
        case rel => exact ⟨k + 1, by go_num, by omega, O5.out, B5.out⟩
        case measure => simp [intOf] <;> omega
      · obtain rfl : k = 11 := by omega
        have htk : ls.take 11 = ls := List.take_of_length_le (by rw [HLN.out]; exact Nat.le_refl _)
        rw [htk] at HO HLB
        clear htk hbr
        go_wp2_with fail
        go_ret
        exact ⟨_, rfl, by rw [HSB.out]; exact HO.out.ints' (by have := HLB.out; omega), by (repeat (first | with_reducible exact Below.refl _ _ | with_reducible refine Bs ?_ | with_reducible refine Ba ?_ | with_reducible refine Bd ?_ | with_reducible refine Bn ?_ | with_reducible refine Bt HBR.out ?_ | with_reducible refine Bt B2.out ?_))⟩
end Go.Proofs.Ytjmjnkilgoelbaa
