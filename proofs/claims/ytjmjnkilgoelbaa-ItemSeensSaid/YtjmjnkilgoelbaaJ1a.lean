/-
  ItemE: Walks of item.PutAsk and of the reference's Ask.
  ItemV: Walks of the reference's RightSeen, of item.PutSeen and of the reference's Seen.
-/
import Derived.Test.YtjmjnkilgoelbaaKItemD
import Derived.Test.YtjmjnkilgoelbaaJ0c
namespace Go.Proofs.Ytjmjnkilgoelbaa
open Go.RowKit

def askBytes (k id n m : Int) (x : List Int) : List Int :=
  if askB k id n m x = true then putsU k.toNat ++ (if k = 1 then putsU id.toNat else []) ++ (if k = 1 ∨ k = 2 ∨ k = 7 then putsInts x else []) ++ (if k = 3 ∨ k = 4 then putsU n.toNat else []) ++ (if k = 3 then putsU m.toNat else []) else []

theorem newI1 (z : Int) (W : World) (T : TypeId) (b : Nat) (hb : b = W.heap.size) : Ints .i64 (W.alloc (.cells #[.int .i64 z] T)) (.slice (some ⟨b, 0, none⟩) 1 1) [z] :=
  Ints.new' .i64 W T #[.int .i64 z] [z] b 1 1 hb rfl rfl (by omega) (by omega)

theorem nats1_any (v : Value) (pre : List Int) (z : Int) (W : World) (b : Nat) (hb : b = W.heap.size) (h : Ints .u8 W v pre) (hz : 0 ≤ z ∧ z ≤ 9223372036854775807) (hl : pre.length ≤ 800000) :
    Calls Try.prog 94 #[v, .slice (some ⟨b, 0, none⟩) 1 1] (W.alloc (.cells #[.int .i64 z] 3)) fun e w' => ∃ v' l', e = .returned v' ∧ l' = pre ++ putsU z.toNat ∧ l'.length ≤ pre.length + 9 ∧ Ints .u8 w' v' l' ∧ Below W.heap.size W w' := by
  refine (nats_any v pre _ [z] _ (h.below (by (repeat (first | with_reducible exact Below.refl _ _ | with_reducible refine Bs ?_ | with_reducible refine Ba ?_ | with_reducible refine Bd ?_ | with_reducible refine Bn ?_)))) (newI1 z W 3 b hb) (by intro x hx; simp at hx; subst hx; exact hz) (by simp; omega)).mono ?_
  rintro e w' ⟨v', rfl, hi, hbl⟩
  refine ⟨v', _, rfl, rfl, ?_, ?_, below_tr (by (repeat (first | with_reducible exact Below.refl _ _ | with_reducible refine Bs ?_ | with_reducible refine Ba ?_ | with_reducible refine Bd ?_ | with_reducible refine Bn ?_))) (hbl.mono (by simp))⟩
  · have := putsU_len (n := z.toNat)
    rw [List.length_append]
    omega
  · simpa [natsB] using hi

theorem putInts1_any (vp : Value) (pre : List Int) (v : Value) (l : List Int) (w : World) (hp : Ints .u8 w vp pre) (h : Ints .i64 w v l) (h64 : ∀ x ∈ l, Ok64 x) (hl : l.length ≤ 8) (hpr : pre.length ≤ 10000) :
    Calls Try.prog 101 #[vp, v] w fun e w' => ∃ v' l', e = .returned v' ∧ l' = pre ++ putsInts l ∧ l'.length ≤ pre.length + 81 ∧ Ints .u8 w' v' l' ∧ Below w.heap.size w w' := by
  refine (putInts_any vp pre v l w hp h h64 (by omega) hpr).mono ?_
  rintro e w' ⟨v', rfl, ho, hbl⟩
  have e1 := putsIs_len l
  have e2 := putsU_len (n := l.length)
  have e3 : (pre ++ putsInts l).length ≤ pre.length + 81 := by
    unfold putsInts
    simp only [List.length_append]
    omega
  exact ⟨v', _, rfl, rfl, e3, (Ints.own ho (by omega)).2, hbl⟩

theorem askB_iff {k id n m : Int} {x : List Int} (h : askB k id n m x = true) : (1 ≤ k ∧ k ≤ 7) ∧ (0 ≤ id ∧ id ≤ 1099511627776) ∧ (0 ≤ n ∧ n ≤ 1099511627776) ∧ (0 ≤ m ∧ m ≤ 1099511627776) ∧ x.length ≤ 8 ∧ ∀ z ∈ x, Ok64 z := by
  unfold askB fewB xOk at h
  simp only [Bool.and_eq_true, decide_eq_true_eq, List.all_eq_true] at h
  obtain ⟨⟨⟨⟨⟨h1, h2⟩, h3⟩, h4⟩, h5, h6⟩, _⟩ := h
  refine ⟨h1, h2, h3, h4, h5, fun z hz => ?_⟩
  have := h6 z hz
  unfold Ok64
  omega

set_option maxRecDepth 100000 in
set_option maxHeartbeats 8000000 in
theorem putAsk_any (v : Value) (pre : List Int) (k id n m : Int) (vx : Value) (x : List Int) (w : World) (h : Ints .u8 w v pre) (hx : Ints .i64 w vx x) (hb : pre.length ≤ 9000) :
    Calls Try.prog 35 #[v, .agg #[.int .i64 k, .int .i64 id, vx, .int .i64 n, .int .i64 m]] w fun e w' => ∃ v', e = .returned v' ∧ Ints .u8 w' v' (pre ++ askBytes k id n m x) ∧ Below w.heap.size w w' := by
  have HP := Lib.hid h
  have HX := Lib.hid hx
  obtain ⟨pa, pc, rfl⟩ := h.shape
  obtain ⟨xa, xc, rfl⟩ := hx.shape
  have HI := Lib.hid (fun W (hW : Ints .i64 W (.slice xa x.length xc) x) => rightAsk_any k id n m _ x W hW)
  clear hx
  cases hs : askB k id n m x with
  | false =>
    have HC := Lib.hid (fun W (hW : Ints .u8 W (.slice pa pre.length pc) pre) => clone8_any _ pre W hW (by omega))
    have HSB := Lib.hid (show askBytes k id n m x = [] by unfold askBytes; rw [hs]; rfl)
    rw [hs] at HI
    clear hs h
    have HN := Lib.hid (show pre.length ≤ 9000 from hb)
    go_enter Try.func35, Try.ntmps35
    go_wp2_with fail
    (with_reducible refine (HI.out _ (HX.out.below (by (repeat (first | with_reducible exact Below.refl _ _ | with_reducible refine Bs ?_ | with_reducible refine Ba ?_ | with_reducible refine Bd ?_ | with_reducible refine Bn ?_))))).mono ?_); rintro e w1 ⟨rfl, b1⟩; have s1 : w.heap.size + 1 ≤ w1.heap.size := sz b1; have B1 := Lib.hid (Bc (B := w.heap.size) (a := w) (by (repeat (first | with_reducible exact Below.refl _ _ | with_reducible refine Bs ?_ | with_reducible refine Ba ?_ | with_reducible refine Bd ?_ | with_reducible refine Bn ?_))) b1); clear b1
    go_wp2_with fail
    (with_reducible refine (HC.out _ (HP.out.below (by (repeat (first | with_reducible exact Below.refl _ _ | with_reducible refine Bs ?_ | with_reducible refine Ba ?_ | with_reducible refine Bd ?_ | with_reducible refine Bn ?_ | with_reducible refine Bt B1.out ?_))))).mono ?_)
    rintro e w2 ⟨v2, rfl, o2, b2⟩
    have B2 := Lib.hid (below_tr B1.out (b2.mono (by omega)))
    go_wp2_with fail
    go_ret
    exact ⟨_, rfl, by rw [HSB.out, List.append_nil]; exact (Ints.own o2 (by have := HN.out; omega)).2, B2.out⟩
  | true =>
    obtain ⟨hk, ⟨i1, i2⟩, ⟨n1, n2⟩, ⟨m1, m2⟩, hl, h64⟩ := askB_iff hs
    have HL := Lib.hid hl
    have H64 := Lib.hid h64
    have HB := Lib.hid hb
    rw [hs] at HI
    have HI1 := Lib.hid (And.intro i1 (show id ≤ 9223372036854775807 by omega))
    have HN1 := Lib.hid (And.intro n1 (show n ≤ 9223372036854775807 by omega))
    have HM1 := Lib.hid (And.intro m1 (show m ≤ 9223372036854775807 by omega))
    clear h hl h64 hb i1 i2 n1 n2 m1 m2
    have HK := Lib.hid hs
    clear hs
    obtain rfl | rfl | rfl | rfl | rfl | rfl | rfl : k = 1 ∨ k = 2 ∨ k = 3 ∨ k = 4 ∨ k = 5 ∨ k = 6 ∨ k = 7 := by omega
    · have HN := Lib.hid (fun W => names_any 1 W)
      rw [show whatI 1 = 3 from rfl, show decide ((1 : Int) ≤ 1 ∧ (1 : Int) ≤ 7) = true from rfl] at HN
      have HSB := Lib.hid (show askBytes 1 id n m x = putsU (1 : Int).toNat ++ putsU id.toNat ++ putsInts x by unfold askBytes; rw [if_pos HK.out]; simp)
      obtain ⟨q1, q2, q3, q4⟩ := bits_what hk
      simp [whatI] at q1 q2 q3 q4
      clear hk HK
      go_enter Try.func35, Try.ntmps35
      go_wp2_with fail
      (with_reducible refine (HI.out _ (HX.out.below (by (repeat (first | with_reducible exact Below.refl _ _ | with_reducible refine Bs ?_ | with_reducible refine Ba ?_ | with_reducible refine Bd ?_ | with_reducible refine Bn ?_))))).mono ?_); rintro e w1 ⟨rfl, b1⟩; have s1 : w.heap.size + 1 ≤ w1.heap.size := sz b1; have B1 := Lib.hid (Bc (B := w.heap.size) (a := w) (by (repeat (first | with_reducible exact Below.refl _ _ | with_reducible refine Bs ?_ | with_reducible refine Ba ?_ | with_reducible refine Bd ?_ | with_reducible refine Bn ?_))) b1); obtain ⟨c1_0, c1_1, c1_2, c1_3, c1_4⟩ := k5 (w.heap.size) (.int .i64 1) (.int .i64 id) (.slice xa x.length xc) (.int .i64 n) (.int .i64 m) b1 (by and_intros <;> go_simp); obtain ⟨l1_0, n1_0, m1_0⟩ := lnm (show w.heap.size < w1.heap.size by omega); clear b1
      go_wp2_with fail
      (with_reducible refine (HN.out _).mono ?_)
      rintro e w9 ⟨rfl, rfl⟩
      go_wp2_with fail
      (with_reducible refine (nats1_any _ _ (1 : Int) _ _ (by rfl) (HP.out.below (by (repeat (first | with_reducible exact Below.refl _ _ | with_reducible refine Bs ?_ | with_reducible refine Ba ?_ | with_reducible refine Bd ?_ | with_reducible refine Bn ?_ | with_reducible refine Bt B1.out ?_)))) ⟨by decide, by decide⟩ (by have := HB.out; omega)).mono ?_); rintro e w2 ⟨v2, l2, rfl, e2, g2, i2, b2⟩; have s2 : w1.heap.size ≤ w2.heap.size := sz b2; have B2 := Lib.hid (Bc (B := w.heap.size) (a := w) (by (repeat (first | with_reducible exact Below.refl _ _ | with_reducible refine Bs ?_ | with_reducible refine Ba ?_ | with_reducible refine Bd ?_ | with_reducible refine Bn ?_ | with_reducible refine Bt B1.out ?_))) b2); obtain ⟨c2_0, c2_1, c2_2, c2_3, c2_4⟩ := k5 (w.heap.size) (.int .i64 1) (.int .i64 id) (.slice xa x.length xc) (.int .i64 n) (.int .i64 m) b2 (by and_intros <;> go_simp); obtain ⟨l2_0, n2_0, m2_0⟩ := lnm (show w.heap.size < w2.heap.size by omega); clear b2
      have G2 := Lib.hid (show l2.length ≤ 9081 by have := HB.out; omega)
      have I2 := Lib.hid i2; have E2 := Lib.hid e2; clear i2 e2 g2
      go_wp2_with fail
      (with_reducible refine (nats1_any _ _ id _ _ (by rfl) I2.out HI1.out (by have := G2.out; omega)).mono ?_); rintro e w3 ⟨v3, l3, rfl, e3, g3, i3, b3⟩; have s3 : w2.heap.size ≤ w3.heap.size := sz b3; have B3 := Lib.hid (Bc (B := w.heap.size) (a := w) (by (repeat (first | with_reducible exact Below.refl _ _ | with_reducible refine Bs ?_ | with_reducible refine Ba ?_ | with_reducible refine Bd ?_ | with_reducible refine Bn ?_ | with_reducible refine Bt B2.out ?_))) b3); obtain ⟨c3_0, c3_1, c3_2, c3_3, c3_4⟩ := k5 (w.heap.size) (.int .i64 1) (.int .i64 id) (.slice xa x.length xc) (.int .i64 n) (.int .i64 m) b3 (by and_intros <;> go_simp); obtain ⟨l3_0, n3_0, m3_0⟩ := lnm (show w.heap.size < w3.heap.size by omega); clear b3
      have G3 := Lib.hid (show l3.length ≤ 9162 by have := G2.out; omega)
      have I3 := Lib.hid i3; have E3 := Lib.hid e3; clear i3 e3 g3
      go_wp2_with fail
      (with_reducible refine (putInts1_any _ _ _ x _ I3.out (HX.out.below (by (repeat (first | with_reducible exact Below.refl _ _ | with_reducible refine Bs ?_ | with_reducible refine Ba ?_ | with_reducible refine Bd ?_ | with_reducible refine Bn ?_ | with_reducible refine Bt B3.out ?_)))) H64.out HL.out (by have := G3.out; omega)).mono ?_); rintro e w4 ⟨v4, l4, rfl, e4, g4, i4, b4⟩; have s4 : w3.heap.size ≤ w4.heap.size := sz b4; have B4 := Lib.hid (Bc (B := w.heap.size) (a := w) (by (repeat (first | with_reducible exact Below.refl _ _ | with_reducible refine Bs ?_ | with_reducible refine Ba ?_ | with_reducible refine Bd ?_ | with_reducible refine Bn ?_ | with_reducible refine Bt B3.out ?_))) b4); obtain ⟨c4_0, c4_1, c4_2, c4_3, c4_4⟩ := k5 (w.heap.size) (.int .i64 1) (.int .i64 id) (.slice xa x.length xc) (.int .i64 n) (.int .i64 m) b4 (by and_intros <;> go_simp); obtain ⟨l4_0, n4_0, m4_0⟩ := lnm (show w.heap.size < w4.heap.size by omega); clear b4
      have G4 := Lib.hid (show l4.length ≤ 9243 by have := G3.out; omega)
      have I4 := Lib.hid i4; have E4 := Lib.hid e4; clear i4 e4 g4
      go_wp2_with fail
      go_ret
      have r := I4.out
      rw [E4.out, E3.out, E2.out] at r
      have r2 : Ints .u8 w4 v4 (pre ++ askBytes 1 id n m x) := by (rw [HSB.out]; simpa only [List.append_assoc] using r)
      exact ⟨_, rfl, r2, B4.out⟩
    · have HN := Lib.hid (fun W => names_any 2 W)
      rw [show whatI 2 = 2 from rfl, show decide ((1 : Int) ≤ 2 ∧ (2 : Int) ≤ 7) = true from rfl] at HN
      have HSB := Lib.hid (show askBytes 2 id n m x = putsU (2 : Int).toNat ++ putsInts x by unfold askBytes; rw [if_pos HK.out]; simp)
      obtain ⟨q1, q2, q3, q4⟩ := bits_what hk
      simp [whatI] at q1 q2 q3 q4
      clear hk HK
      go_enter Try.func35, Try.ntmps35
      go_wp2_with fail
      (with_reducible refine (HI.out _ (HX.out.below (by (repeat (first | with_reducible exact Below.refl _ _ | with_reducible refine Bs ?_ | with_reducible refine Ba ?_ | with_reducible refine Bd ?_ | with_reducible refine Bn ?_))))).mono ?_); rintro e w1 ⟨rfl, b1⟩; have s1 : w.heap.size + 1 ≤ w1.heap.size := sz b1; have B1 := Lib.hid (Bc (B := w.heap.size) (a := w) (by (repeat (first | with_reducible exact Below.refl _ _ | with_reducible refine Bs ?_ | with_reducible refine Ba ?_ | with_reducible refine Bd ?_ | with_reducible refine Bn ?_))) b1); obtain ⟨c1_0, c1_1, c1_2, c1_3, c1_4⟩ := k5 (w.heap.size) (.int .i64 2) (.int .i64 id) (.slice xa x.length xc) (.int .i64 n) (.int .i64 m) b1 (by and_intros <;> go_simp); obtain ⟨l1_0, n1_0, m1_0⟩ := lnm (show w.heap.size < w1.heap.size by omega); clear b1
      go_wp2_with fail
      (with_reducible refine (HN.out _).mono ?_)
      rintro e w9 ⟨rfl, rfl⟩
      go_wp2_with fail
      (with_reducible refine (nats1_any _ _ (2 : Int) _ _ (by rfl) (HP.out.below (by (repeat (first | with_reducible exact Below.refl _ _ | with_reducible refine Bs ?_ | with_reducible refine Ba ?_ | with_reducible refine Bd ?_ | with_reducible refine Bn ?_ | with_reducible refine Bt B1.out ?_)))) ⟨by decide, by decide⟩ (by have := HB.out; omega)).mono ?_); rintro e w2 ⟨v2, l2, rfl, e2, g2, i2, b2⟩; have s2 : w1.heap.size ≤ w2.heap.size := sz b2; have B2 := Lib.hid (Bc (B := w.heap.size) (a := w) (by (repeat (first | with_reducible exact Below.refl _ _ | with_reducible refine Bs ?_ | with_reducible refine Ba ?_ | with_reducible refine Bd ?_ | with_reducible refine Bn ?_ | with_reducible refine Bt B1.out ?_))) b2); obtain ⟨c2_0, c2_1, c2_2, c2_3, c2_4⟩ := k5 (w.heap.size) (.int .i64 2) (.int .i64 id) (.slice xa x.length xc) (.int .i64 n) (.int .i64 m) b2 (by and_intros <;> go_simp); obtain ⟨l2_0, n2_0, m2_0⟩ := lnm (show w.heap.size < w2.heap.size by omega); clear b2
      have G2 := Lib.hid (show l2.length ≤ 9081 by have := HB.out; omega)
      have I2 := Lib.hid i2; have E2 := Lib.hid e2; clear i2 e2 g2
      go_wp2_with fail
      (with_reducible refine (putInts1_any _ _ _ x _ I2.out (HX.out.below (by (repeat (first | with_reducible exact Below.refl _ _ | with_reducible refine Bs ?_ | with_reducible refine Ba ?_ | with_reducible refine Bd ?_ | with_reducible refine Bn ?_ | with_reducible refine Bt B2.out ?_)))) H64.out HL.out (by have := G2.out; omega)).mono ?_); rintro e w3 ⟨v3, l3, rfl, e3, g3, i3, b3⟩; have s3 : w2.heap.size ≤ w3.heap.size := sz b3; have B3 := Lib.hid (Bc (B := w.heap.size) (a := w) (by (repeat (first | with_reducible exact Below.refl _ _ | with_reducible refine Bs ?_ | with_reducible refine Ba ?_ | with_reducible refine Bd ?_ | with_reducible refine Bn ?_ | with_reducible refine Bt B2.out ?_))) b3); obtain ⟨c3_0, c3_1, c3_2, c3_3, c3_4⟩ := k5 (w.heap.size) (.int .i64 2) (.int .i64 id) (.slice xa x.length xc) (.int .i64 n) (.int .i64 m) b3 (by and_intros <;> go_simp); obtain ⟨l3_0, n3_0, m3_0⟩ := lnm (show w.heap.size < w3.heap.size by omega); clear b3
      have G3 := Lib.hid (show l3.length ≤ 9162 by have := G2.out; omega)
      have I3 := Lib.hid i3; have E3 := Lib.hid e3; clear i3 e3 g3
      go_wp2_with fail
      go_ret
      have r := I3.out
      rw [E3.out, E2.out] at r
      have r2 : Ints .u8 w3 v3 (pre ++ askBytes 2 id n m x) := by (rw [HSB.out]; simpa only [List.append_assoc] using r)
      exact ⟨_, rfl, r2, B3.out⟩
    · have HN := Lib.hid (fun W => names_any 3 W)
      rw [show whatI 3 = 12 from rfl, show decide ((1 : Int) ≤ 3 ∧ (3 : Int) ≤ 7) = true from rfl] at HN
      have HSB := Lib.hid (show askBytes 3 id n m x = putsU (3 : Int).toNat ++ putsU n.toNat ++ putsU m.toNat by unfold askBytes; rw [if_pos HK.out]; simp)
      obtain ⟨q1, q2, q3, q4⟩ := bits_what hk
      simp [whatI] at q1 q2 q3 q4
      clear hk HK
      go_enter Try.func35, Try.ntmps35
      go_wp2_with fail
      (with_reducible refine (HI.out _ (HX.out.below (by (repeat (first | with_reducible exact Below.refl _ _ | with_reducible refine Bs ?_ | with_reducible refine Ba ?_ | with_reducible refine Bd ?_ | with_reducible refine Bn ?_))))).mono ?_); rintro e w1 ⟨rfl, b1⟩; have s1 : w.heap.size + 1 ≤ w1.heap.size := sz b1; have B1 := Lib.hid (Bc (B := w.heap.size) (a := w) (by (repeat (first | with_reducible exact Below.refl _ _ | with_reducible refine Bs ?_ | with_reducible refine Ba ?_ | with_reducible refine Bd ?_ | with_reducible refine Bn ?_))) b1); obtain ⟨c1_0, c1_1, c1_2, c1_3, c1_4⟩ := k5 (w.heap.size) (.int .i64 3) (.int .i64 id) (.slice xa x.length xc) (.int .i64 n) (.int .i64 m) b1 (by and_intros <;> go_simp); obtain ⟨l1_0, n1_0, m1_0⟩ := lnm (show w.heap.size < w1.heap.size by omega); clear b1
      go_wp2_with fail
      (with_reducible refine (HN.out _).mono ?_)
      rintro e w9 ⟨rfl, rfl⟩
      go_wp2_with fail
      (with_reducible refine (nats1_any _ _ (3 : Int) _ _ (by rfl) (HP.out.below (by (repeat (first | with_reducible exact Below.refl _ _ | with_reducible refine Bs ?_ | with_reducible refine Ba ?_ | with_reducible refine Bd ?_ | with_reducible refine Bn ?_ | with_reducible refine Bt B1.out ?_)))) ⟨by decide, by decide⟩ (by have := HB.out; omega)).mono ?_); rintro e w2 ⟨v2, l2, rfl, e2, g2, i2, b2⟩; have s2 : w1.heap.size ≤ w2.heap.size := sz b2; have B2 := Lib.hid (Bc (B := w.heap.size) (a := w) (by (repeat (first | with_reducible exact Below.refl _ _ | with_reducible refine Bs ?_ | with_reducible refine Ba ?_ | with_reducible refine Bd ?_ | with_reducible refine Bn ?_ | with_reducible refine Bt B1.out ?_))) b2); obtain ⟨c2_0, c2_1, c2_2, c2_3, c2_4⟩ := k5 (w.heap.size) (.int .i64 3) (.int .i64 id) (.slice xa x.length xc) (.int .i64 n) (.int .i64 m) b2 (by and_intros <;> go_simp); obtain ⟨l2_0, n2_0, m2_0⟩ := lnm (show w.heap.size < w2.heap.size by omega); clear b2
      have G2 := Lib.hid (show l2.length ≤ 9081 by have := HB.out; omega)
      have I2 := Lib.hid i2; have E2 := Lib.hid e2; clear i2 e2 g2
      go_wp2_with fail
      (with_reducible refine (nats1_any _ _ n _ _ (by rfl) I2.out HN1.out (by have := G2.out; omega)).mono ?_); rintro e w3 ⟨v3, l3, rfl, e3, g3, i3, b3⟩; have s3 : w2.heap.size ≤ w3.heap.size := sz b3; have B3 := Lib.hid (Bc (B := w.heap.size) (a := w) (by (repeat (first | with_reducible exact Below.refl _ _ | with_reducible refine Bs ?_ | with_reducible refine Ba ?_ | with_reducible refine Bd ?_ | with_reducible refine Bn ?_ | with_reducible refine Bt B2.out ?_))) b3); obtain ⟨c3_0, c3_1, c3_2, c3_3, c3_4⟩ := k5 (w.heap.size) (.int .i64 3) (.int .i64 id) (.slice xa x.length xc) (.int .i64 n) (.int .i64 m) b3 (by and_intros <;> go_simp); obtain ⟨l3_0, n3_0, m3_0⟩ := lnm (show w.heap.size < w3.heap.size by omega); clear b3
      have G3 := Lib.hid (show l3.length ≤ 9162 by have := G2.out; omega)
      have I3 := Lib.hid i3; have E3 := Lib.hid e3; clear i3 e3 g3
      go_wp2_with fail
      (with_reducible refine (nats1_any _ _ m _ _ (by rfl) I3.out HM1.out (by have := G3.out; omega)).mono ?_); rintro e w4 ⟨v4, l4, rfl, e4, g4, i4, b4⟩; have s4 : w3.heap.size ≤ w4.heap.size := sz b4; have B4 := Lib.hid (Bc (B := w.heap.size) (a := w) (by (repeat (first | with_reducible exact Below.refl _ _ | with_reducible refine Bs ?_ | with_reducible refine Ba ?_ | with_reducible refine Bd ?_ | with_reducible refine Bn ?_ | with_reducible refine Bt B3.out ?_))) b4); obtain ⟨c4_0, c4_1, c4_2, c4_3, c4_4⟩ := k5 (w.heap.size) (.int .i64 3) (.int .i64 id) (.slice xa x.length xc) (.int .i64 n) (.int .i64 m) b4 (by and_intros <;> go_simp); obtain ⟨l4_0, n4_0, m4_0⟩ := lnm (show w.heap.size < w4.heap.size by omega); clear b4
      have G4 := Lib.hid (show l4.length ≤ 9243 by have := G3.out; omega)
      have I4 := Lib.hid i4; have E4 := Lib.hid e4; clear i4 e4 g4
      go_wp2_with fail
      go_ret
      have r := I4.out
      rw [E4.out, E3.out, E2.out] at r
      have r2 : Ints .u8 w4 v4 (pre ++ askBytes 3 id n m x) := by (rw [HSB.out]; simpa only [List.append_assoc] using r)
      exact ⟨_, rfl, r2, B4.out⟩
    · have HN := Lib.hid (fun W => names_any 4 W)
      rw [show whatI 4 = 4 from rfl, show decide ((1 : Int) ≤ 4 ∧ (4 : Int) ≤ 7) = true from rfl] at HN
      have HSB := Lib.hid (show askBytes 4 id n m x = putsU (4 : Int).toNat ++ putsU n.toNat by unfold askBytes; rw [if_pos HK.out]; simp)
      obtain ⟨q1, q2, q3, q4⟩ := bits_what hk
      simp [whatI] at q1 q2 q3 q4
      clear hk HK
      go_enter Try.func35, Try.ntmps35
      go_wp2_with fail
      (with_reducible refine (HI.out _ (HX.out.below (by (repeat (first | with_reducible exact Below.refl _ _ | with_reducible refine Bs ?_ | with_reducible refine Ba ?_ | with_reducible refine Bd ?_ | with_reducible refine Bn ?_))))).mono ?_); rintro e w1 ⟨rfl, b1⟩; have s1 : w.heap.size + 1 ≤ w1.heap.size := sz b1; have B1 := Lib.hid (Bc (B := w.heap.size) (a := w) (by (repeat (first | with_reducible exact Below.refl _ _ | with_reducible refine Bs ?_ | with_reducible refine Ba ?_ | with_reducible refine Bd ?_ | with_reducible refine Bn ?_))) b1); obtain ⟨c1_0, c1_1, c1_2, c1_3, c1_4⟩ := k5 (w.heap.size) (.int .i64 4) (.int .i64 id) (.slice xa x.length xc) (.int .i64 n) (.int .i64 m) b1 (by and_intros <;> go_simp); obtain ⟨l1_0, n1_0, m1_0⟩ := lnm (show w.heap.size < w1.heap.size by omega); clear b1
      go_wp2_with fail
      (with_reducible refine (HN.out _).mono ?_)
      rintro e w9 ⟨rfl, rfl⟩
      go_wp2_with fail
      (with_reducible refine (nats1_any _ _ (4 : Int) _ _ (by rfl) (HP.out.below (by (repeat (first | with_reducible exact Below.refl _ _ | with_reducible refine Bs ?_ | with_reducible refine Ba ?_ | with_reducible refine Bd ?_ | with_reducible refine Bn ?_ | with_reducible refine Bt B1.out ?_)))) ⟨by decide, by decide⟩ (by have := HB.out; omega)).mono ?_); rintro e w2 ⟨v2, l2, rfl, e2, g2, i2, b2⟩; have s2 : w1.heap.size ≤ w2.heap.size := sz b2; have B2 := Lib.hid (Bc (B := w.heap.size) (a := w) (by (repeat (first | with_reducible exact Below.refl _ _ | with_reducible refine Bs ?_ | with_reducible refine Ba ?_ | with_reducible refine Bd ?_ | with_reducible refine Bn ?_ | with_reducible refine Bt B1.out ?_))) b2); obtain ⟨c2_0, c2_1, c2_2, c2_3, c2_4⟩ := k5 (w.heap.size) (.int .i64 4) (.int .i64 id) (.slice xa x.length xc) (.int .i64 n) (.int .i64 m) b2 (by and_intros <;> go_simp); obtain ⟨l2_0, n2_0, m2_0⟩ := lnm (show w.heap.size < w2.heap.size by omega); clear b2
      have G2 := Lib.hid (show l2.length ≤ 9081 by have := HB.out; omega)
      have I2 := Lib.hid i2; have E2 := Lib.hid e2; clear i2 e2 g2
      go_wp2_with fail
      (with_reducible refine (nats1_any _ _ n _ _ (by rfl) I2.out HN1.out (by have := G2.out; omega)).mono ?_); rintro e w3 ⟨v3, l3, rfl, e3, g3, i3, b3⟩; have s3 : w2.heap.size ≤ w3.heap.size := sz b3; have B3 := Lib.hid (Bc (B := w.heap.size) (a := w) (by (repeat (first | with_reducible exact Below.refl _ _ | with_reducible refine Bs ?_ | with_reducible refine Ba ?_ | with_reducible refine Bd ?_ | with_reducible refine Bn ?_ | with_reducible refine Bt B2.out ?_))) b3); obtain ⟨c3_0, c3_1, c3_2, c3_3, c3_4⟩ := k5 (w.heap.size) (.int .i64 4) (.int .i64 id) (.slice xa x.length xc) (.int .i64 n) (.int .i64 m) b3 (by and_intros <;> go_simp); obtain ⟨l3_0, n3_0, m3_0⟩ := lnm (show w.heap.size < w3.heap.size by omega); clear b3
      have G3 := Lib.hid (show l3.length ≤ 9162 by have := G2.out; omega)
      have I3 := Lib.hid i3; have E3 := Lib.hid e3; clear i3 e3 g3
      go_wp2_with fail
      go_ret
      have r := I3.out
      rw [E3.out, E2.out] at r
      have r2 : Ints .u8 w3 v3 (pre ++ askBytes 4 id n m x) := by (rw [HSB.out]; simpa only [List.append_assoc] using r)
      exact ⟨_, rfl, r2, B3.out⟩
    · have HN := Lib.hid (fun W => names_any 5 W)
      rw [show whatI 5 = 0 from rfl, show decide ((1 : Int) ≤ 5 ∧ (5 : Int) ≤ 7) = true from rfl] at HN
      have HSB := Lib.hid (show askBytes 5 id n m x = putsU (5 : Int).toNat by unfold askBytes; rw [if_pos HK.out]; simp)
      obtain ⟨q1, q2, q3, q4⟩ := bits_what hk
      simp [whatI] at q1 q2 q3 q4
      clear hk HK
      go_enter Try.func35, Try.ntmps35
      go_wp2_with fail
      (with_reducible refine (HI.out _ (HX.out.below (by (repeat (first | with_reducible exact Below.refl _ _ | with_reducible refine Bs ?_ | with_reducible refine Ba ?_ | with_reducible refine Bd ?_ | with_reducible refine Bn ?_))))).mono ?_); rintro e w1 ⟨rfl, b1⟩; have s1 : w.heap.size + 1 ≤ w1.heap.size := sz b1; have B1 := Lib.hid (Bc (B := w.heap.size) (a := w) (by (repeat (first | with_reducible exact Below.refl _ _ | with_reducible refine Bs ?_ | with_reducible refine Ba ?_ | with_reducible refine Bd ?_ | with_reducible refine Bn ?_))) b1); obtain ⟨c1_0, c1_1, c1_2, c1_3, c1_4⟩ := k5 (w.heap.size) (.int .i64 5) (.int .i64 id) (.slice xa x.length xc) (.int .i64 n) (.int .i64 m) b1 (by and_intros <;> go_simp); obtain ⟨l1_0, n1_0, m1_0⟩ := lnm (show w.heap.size < w1.heap.size by omega); clear b1
      go_wp2_with fail
      (with_reducible refine (HN.out _).mono ?_)
      rintro e w9 ⟨rfl, rfl⟩
      go_wp2_with fail
      (with_reducible refine (nats1_any _ _ (5 : Int) _ _ (by rfl) (HP.out.below (by (repeat (first | with_reducible exact Below.refl _ _ | with_reducible refine Bs ?_ | with_reducible refine Ba ?_ | with_reducible refine Bd ?_ | with_reducible refine Bn ?_ | with_reducible refine Bt B1.out ?_)))) ⟨by decide, by decide⟩ (by have := HB.out; omega)).mono ?_); rintro e w2 ⟨v2, l2, rfl, e2, g2, i2, b2⟩; have s2 : w1.heap.size ≤ w2.heap.size := sz b2; have B2 := Lib.hid (Bc (B := w.heap.size) (a := w) (by (repeat (first | with_reducible exact Below.refl _ _ | with_reducible refine Bs ?_ | with_reducible refine Ba ?_ | with_reducible refine Bd ?_ | with_reducible refine Bn ?_ | with_reducible refine Bt B1.out ?_))) b2); obtain ⟨c2_0, c2_1, c2_2, c2_3, c2_4⟩ := k5 (w.heap.size) (.int .i64 5) (.int .i64 id) (.slice xa x.length xc) (.int .i64 n) (.int .i64 m) b2 (by and_intros <;> go_simp); obtain ⟨l2_0, n2_0, m2_0⟩ := lnm (show w.heap.size < w2.heap.size by omega); clear b2
      have G2 := Lib.hid (show l2.length ≤ 9081 by have := HB.out; omega)
      have I2 := Lib.hid i2; have E2 := Lib.hid e2; clear i2 e2 g2
      go_wp2_with fail
      go_ret
      have r := I2.out
      rw [E2.out] at r
      have r2 : Ints .u8 w2 v2 (pre ++ askBytes 5 id n m x) := by (rw [HSB.out]; simpa only [List.append_assoc] using r)
      exact ⟨_, rfl, r2, B2.out⟩
    · have HN := Lib.hid (fun W => names_any 6 W)
      rw [show whatI 6 = 0 from rfl, show decide ((1 : Int) ≤ 6 ∧ (6 : Int) ≤ 7) = true from rfl] at HN
      have HSB := Lib.hid (show askBytes 6 id n m x = putsU (6 : Int).toNat by unfold askBytes; rw [if_pos HK.out]; simp)
      obtain ⟨q1, q2, q3, q4⟩ := bits_what hk
      simp [whatI] at q1 q2 q3 q4
      clear hk HK
      go_enter Try.func35, Try.ntmps35
      go_wp2_with fail
      (with_reducible refine (HI.out _ (HX.out.below (by (repeat (first | with_reducible exact Below.refl _ _ | with_reducible refine Bs ?_ | with_reducible refine Ba ?_ | with_reducible refine Bd ?_ | with_reducible refine Bn ?_))))).mono ?_); rintro e w1 ⟨rfl, b1⟩; have s1 : w.heap.size + 1 ≤ w1.heap.size := sz b1; have B1 := Lib.hid (Bc (B := w.heap.size) (a := w) (by (repeat (first | with_reducible exact Below.refl _ _ | with_reducible refine Bs ?_ | with_reducible refine Ba ?_ | with_reducible refine Bd ?_ | with_reducible refine Bn ?_))) b1); obtain ⟨c1_0, c1_1, c1_2, c1_3, c1_4⟩ := k5 (w.heap.size) (.int .i64 6) (.int .i64 id) (.slice xa x.length xc) (.int .i64 n) (.int .i64 m) b1 (by and_intros <;> go_simp); obtain ⟨l1_0, n1_0, m1_0⟩ := lnm (show w.heap.size < w1.heap.size by omega); clear b1
      go_wp2_with fail
      (with_reducible refine (HN.out _).mono ?_)
      rintro e w9 ⟨rfl, rfl⟩
      go_wp2_with fail
      (with_reducible refine (nats1_any _ _ (6 : Int) _ _ (by rfl) (HP.out.below (by (repeat (first | with_reducible exact Below.refl _ _ | with_reducible refine Bs ?_ | with_reducible refine Ba ?_ | with_reducible refine Bd ?_ | with_reducible refine Bn ?_ | with_reducible refine Bt B1.out ?_)))) ⟨by decide, by decide⟩ (by have := HB.out; omega)).mono ?_); rintro e w2 ⟨v2, l2, rfl, e2, g2, i2, b2⟩; have s2 : w1.heap.size ≤ w2.heap.size := sz b2; have B2 := Lib.hid (Bc (B := w.heap.size) (a := w) (by (repeat (first | with_reducible exact Below.refl _ _ | with_reducible refine Bs ?_ | with_reducible refine Ba ?_ | with_reducible refine Bd ?_ | with_reducible refine Bn ?_ | with_reducible refine Bt B1.out ?_))) b2); obtain ⟨c2_0, c2_1, c2_2, c2_3, c2_4⟩ := k5 (w.heap.size) (.int .i64 6) (.int .i64 id) (.slice xa x.length xc) (.int .i64 n) (.int .i64 m) b2 (by and_intros <;> go_simp); obtain ⟨l2_0, n2_0, m2_0⟩ := lnm (show w.heap.size < w2.heap.size by omega); clear b2
      have G2 := Lib.hid (show l2.length ≤ 9081 by have := HB.out; omega)
      have I2 := Lib.hid i2; have E2 := Lib.hid e2; clear i2 e2 g2
      go_wp2_with fail
      go_ret
      have r := I2.out
      rw [E2.out] at r
      have r2 : Ints .u8 w2 v2 (pre ++ askBytes 6 id n m x) := by (rw [HSB.out]; simpa only [List.append_assoc] using r)
      exact ⟨_, rfl, r2, B2.out⟩
    · have HN := Lib.hid (fun W => names_any 7 W)
      rw [show whatI 7 = 2 from rfl, show decide ((1 : Int) ≤ 7 ∧ (7 : Int) ≤ 7) = true from rfl] at HN
      have HSB := Lib.hid (show askBytes 7 id n m x = putsU (7 : Int).toNat ++ putsInts x by unfold askBytes; rw [if_pos HK.out]; simp)
      obtain ⟨q1, q2, q3, q4⟩ := bits_what hk
      simp [whatI] at q1 q2 q3 q4
      clear hk HK
      go_enter Try.func35, Try.ntmps35
      go_wp2_with fail
      (with_reducible refine (HI.out _ (HX.out.below (by (repeat (first | with_reducible exact Below.refl _ _ | with_reducible refine Bs ?_ | with_reducible refine Ba ?_ | with_reducible refine Bd ?_ | with_reducible refine Bn ?_))))).mono ?_); rintro e w1 ⟨rfl, b1⟩; have s1 : w.heap.size + 1 ≤ w1.heap.size := sz b1; have B1 := Lib.hid (Bc (B := w.heap.size) (a := w) (by (repeat (first | with_reducible exact Below.refl _ _ | with_reducible refine Bs ?_ | with_reducible refine Ba ?_ | with_reducible refine Bd ?_ | with_reducible refine Bn ?_))) b1); obtain ⟨c1_0, c1_1, c1_2, c1_3, c1_4⟩ := k5 (w.heap.size) (.int .i64 7) (.int .i64 id) (.slice xa x.length xc) (.int .i64 n) (.int .i64 m) b1 (by and_intros <;> go_simp); obtain ⟨l1_0, n1_0, m1_0⟩ := lnm (show w.heap.size < w1.heap.size by omega); clear b1
      go_wp2_with fail
      (with_reducible refine (HN.out _).mono ?_)
      rintro e w9 ⟨rfl, rfl⟩
      go_wp2_with fail
      (with_reducible refine (nats1_any _ _ (7 : Int) _ _ (by rfl) (HP.out.below (by (repeat (first | with_reducible exact Below.refl _ _ | with_reducible refine Bs ?_ | with_reducible refine Ba ?_ | with_reducible refine Bd ?_ | with_reducible refine Bn ?_ | with_reducible refine Bt B1.out ?_)))) ⟨by decide, by decide⟩ (by have := HB.out; omega)).mono ?_); rintro e w2 ⟨v2, l2, rfl, e2, g2, i2, b2⟩; have s2 : w1.heap.size ≤ w2.heap.size := sz b2; have B2 := Lib.hid (Bc (B := w.heap.size) (a := w) (by (repeat (first | with_reducible exact Below.refl _ _ | with_reducible refine Bs ?_ | with_reducible refine Ba ?_ | with_reducible refine Bd ?_ | with_reducible refine Bn ?_ | with_reducible refine Bt B1.out ?_))) b2); obtain ⟨c2_0, c2_1, c2_2, c2_3, c2_4⟩ := k5 (w.heap.size) (.int .i64 7) (.int .i64 id) (.slice xa x.length xc) (.int .i64 n) (.int .i64 m) b2 (by and_intros <;> go_simp); obtain ⟨l2_0, n2_0, m2_0⟩ := lnm (show w.heap.size < w2.heap.size by omega); clear b2
      have G2 := Lib.hid (show l2.length ≤ 9081 by have := HB.out; omega)
      have I2 := Lib.hid i2; have E2 := Lib.hid e2; clear i2 e2 g2
      go_wp2_with fail
      (with_reducible refine (putInts1_any _ _ _ x _ I2.out (HX.out.below (by (repeat (first | with_reducible exact Below.refl _ _ | with_reducible refine Bs ?_ | with_reducible refine Ba ?_ | with_reducible refine Bd ?_ | with_reducible refine Bn ?_ | with_reducible refine Bt B2.out ?_)))) H64.out HL.out (by have := G2.out; omega)).mono ?_); rintro e w3 ⟨v3, l3, rfl, e3, g3, i3, b3⟩; have s3 : w2.heap.size ≤ w3.heap.size := sz b3; have B3 := Lib.hid (Bc (B := w.heap.size) (a := w) (by (repeat (first | with_reducible exact Below.refl _ _ | with_reducible refine Bs ?_ | with_reducible refine Ba ?_ | with_reducible refine Bd ?_ | with_reducible refine Bn ?_ | with_reducible refine Bt B2.out ?_))) b3); obtain ⟨c3_0, c3_1, c3_2, c3_3, c3_4⟩ := k5 (w.heap.size) (.int .i64 7) (.int .i64 id) (.slice xa x.length xc) (.int .i64 n) (.int .i64 m) b3 (by and_intros <;> go_simp); obtain ⟨l3_0, n3_0, m3_0⟩ := lnm (show w.heap.size < w3.heap.size by omega); clear b3
      have G3 := Lib.hid (show l3.length ≤ 9162 by have := G2.out; omega)
      have I3 := Lib.hid i3; have E3 := Lib.hid e3; clear i3 e3 g3
      go_wp2_with fail
      go_ret
      have r := I3.out
      rw [E3.out, E2.out] at r
      have r2 : Ints .u8 w3 v3 (pre ++ askBytes 7 id n m x) := by (rw [HSB.out]; simpa only [List.append_assoc] using r)
      exact ⟨_, rfl, r2, B3.out⟩
end Go.Proofs.Ytjmjnkilgoelbaa

namespace Go.Proofs.Ytjmjnkilgoelbaa
open Go.RowKit

set_option maxRecDepth 100000 in
set_option maxHeartbeats 8000000 in
theorem rrightSeen_any (id P Q dim : Int) (s : Bool) (vx : Value) (x : List Int) (w : World) (h : Ints .i64 w vx x) :
    Calls Try.prog 49 #[.agg #[.int .i64 id, vx, .int .i64 P, .int .i64 Q, .bool s], .int .i64 dim] w fun e w' => e = .returned (.bool (seenB id x P Q s dim)) ∧ Below w.heap.size w w' := by
  have HX := Lib.hid h
  obtain ⟨xa, xc, rfl⟩ := h.shape
  have HV := Lib.hid (fun W (hW : Ints .i64 W (.slice xa x.length xc) x) => risv_any _ x dim W hW)
  have HS := Lib.hid (fun W => ris13_any P Q W)
  have HR := Lib.hid (show seenB id x P Q s dim = (decide (1 ≤ id ∧ id ≤ 1099511627776) && vecB x dim && (if s = true then scoreB (P, Q) else decide (P = 0 ∧ Q = 0))) from rfl)
  generalize seenB id x P Q s dim = R at *
  clear h
  by_cases hid : 1 ≤ id ∧ id ≤ 1099511627776
  · rw [decide_eq_true hid] at HR
    obtain ⟨i1, i2⟩ := hid
    generalize vecB x dim = V at *
    cases V with
    | false =>
      have HR2 := Lib.hid (show R = false by rw [HR.out]; rfl)
      clear HR
      go_enter Try.func49, Try.ntmps49
      go_wp2_with fail
      (with_reducible refine (HV.out _ (HX.out.below (by (repeat (first | with_reducible exact Below.refl _ _ | with_reducible refine Bs ?_ | with_reducible refine Ba ?_ | with_reducible refine Bd ?_ | with_reducible refine Bn ?_))))).mono ?_)
      rintro e w1 ⟨rfl, rfl⟩
      go_wp2_with fail
      go_ret
      exact ⟨ret_bool HR2.out.symm, by (repeat (first | with_reducible exact Below.refl _ _ | with_reducible refine Bs ?_ | with_reducible refine Ba ?_ | with_reducible refine Bd ?_ | with_reducible refine Bn ?_))⟩
    | true =>
      cases s with
      | true =>
        have HR2 := Lib.hid (show R = scoreB (P, Q) by rw [HR.out]; rfl)
        clear HR
        generalize scoreB (P, Q) = B at *
        go_enter Try.func49, Try.ntmps49
        go_wp2_with fail
        (with_reducible refine (HV.out _ (HX.out.below (by (repeat (first | with_reducible exact Below.refl _ _ | with_reducible refine Bs ?_ | with_reducible refine Ba ?_ | with_reducible refine Bd ?_ | with_reducible refine Bn ?_))))).mono ?_)
        rintro e w1 ⟨rfl, rfl⟩
        go_wp2_with fail
        (with_reducible refine (HS.out _).mono ?_); rintro e w2 ⟨rfl, b2⟩; have s2 : w.heap.size + 1 ≤ w2.heap.size := sz b2; have B2 := Lib.hid (Bc (B := w.heap.size) (a := w) (by (repeat (first | with_reducible exact Below.refl _ _ | with_reducible refine Bs ?_ | with_reducible refine Ba ?_ | with_reducible refine Bd ?_ | with_reducible refine Bn ?_))) b2); clear b2
        go_wp2_with fail
        go_ret
        exact ⟨ret_bool HR2.out.symm, B2.out⟩
      | false =>
        have HR2 := Lib.hid (show R = decide (P = 0 ∧ Q = 0) by rw [HR.out]; rfl)
        clear HR
        go_enter Try.func49, Try.ntmps49
        go_wp2_with fail
        (with_reducible refine (HV.out _ (HX.out.below (by (repeat (first | with_reducible exact Below.refl _ _ | with_reducible refine Bs ?_ | with_reducible refine Ba ?_ | with_reducible refine Bd ?_ | with_reducible refine Bn ?_))))).mono ?_)
        rintro e w1 ⟨rfl, rfl⟩
        go_wp2_with fail
        all_goals
          go_ret
          refine ⟨ret_bool ?_, by (repeat (first | with_reducible exact Below.refl _ _ | with_reducible refine Bs ?_ | with_reducible refine Ba ?_ | with_reducible refine Bd ?_ | with_reducible refine Bn ?_))⟩
          rw [HR2.out]
          first | rfl | (simp [*]; done) | (by_cases hq : Q = 0 <;> simp [*]; done)
  · have HR2 := Lib.hid (show R = false by rw [HR.out, decide_eq_false hid]; rfl)
    clear HR
    have hid2 : id < 1 ∨ 1099511627776 < id := by omega
    clear hid
    rcases hid2 with h1 | h1
    · go_enter Try.func49, Try.ntmps49
      go_wp2_with fail
      go_ret
      exact ⟨ret_bool HR2.out.symm, by (repeat (first | with_reducible exact Below.refl _ _ | with_reducible refine Bs ?_ | with_reducible refine Ba ?_ | with_reducible refine Bd ?_ | with_reducible refine Bn ?_))⟩
    · have h2 : ¬ id < 1 := by omega
      go_enter Try.func49, Try.ntmps49
      go_wp2_with fail
      go_ret
      exact ⟨ret_bool HR2.out.symm, by (repeat (first | with_reducible exact Below.refl _ _ | with_reducible refine Bs ?_ | with_reducible refine Ba ?_ | with_reducible refine Bd ?_ | with_reducible refine Bn ?_))⟩

theorem Ints.at {k : IntKind} {w : World} {a : Option Addr} {n c : Nat} {l : List Int} (h : Ints k w (.slice a n c) l) {i : Nat} {x : Int} (hi : l[i]? = some x) : ∃ b o, a = some ⟨b, o, none⟩ ∧ b < w.heap.size ∧ w.cell? ⟨b, o + i, none⟩ = some (.int k x) := by
  obtain ⟨a', c', e, _, _, _, g⟩ := h
  injection e with e1 e2 e3
  subst e1
  exact g i x hi

def seenBytes (id : Int) (x : List Int) (P Q : Int) (s : Bool) (dim : Int) : List Int :=
  if seenB id x P Q s dim = true then putsU id.toNat ++ putsIs x ++ (if s = true then putsU 1 ++ scoreBytes (P, Q) else putsU 0) else []

theorem vecB_iff {x : List Int} {dim : Int} (h : vecB x dim = true) : (1 ≤ dim ∧ dim ≤ 8) ∧ (x.length : Int) = dim ∧ ∀ z ∈ x, Ok64 z := by
  unfold vecB at h
  simp only [Bool.and_eq_true, decide_eq_true_eq, List.all_eq_true] at h
  obtain ⟨⟨⟨h1, h2⟩, h3⟩, h4⟩ := h
  refine ⟨⟨h1, h2⟩, h3, fun z hz => ?_⟩
  have := h4 z hz
  unfold Ok64
  omega

theorem seenB_iff {id : Int} {x : List Int} {P Q : Int} {s : Bool} {dim : Int} (h : seenB id x P Q s dim = true) : (1 ≤ id ∧ id ≤ 1099511627776) ∧ x.length ≤ 8 ∧ (∀ z ∈ x, Ok64 z) ∧ (s = true → scoreB (P, Q) = true) := by
  unfold seenB at h
  simp only [Bool.and_eq_true, decide_eq_true_eq] at h
  obtain ⟨⟨h1, h2⟩, h3⟩ := h
  obtain ⟨v1, v2, v3⟩ := vecB_iff h2
  refine ⟨h1, by omega, v3, fun hs => ?_⟩
  rw [if_pos hs] at h3
  exact h3

theorem putsIs_next {x : List Int} {k : Nat} {z : Int} (h : x[k]? = some z) : putsIs (x.take (k + 1)) = putsIs (x.take k) ++ putsI z := by
  rw [take_snoc' h]
  induction x.take k with
  | nil => simp [putsIs]
  | cons a l ih => simp [putsIs, ih]

theorem scoreBytes_len (p : Int × Int) : (scoreBytes p).length ≤ 18 := by
  unfold scoreBytes
  split
  · have := putsU_len (n := p.1.toNat)
    have := putsU_len (n := p.2.toNat)
    rw [List.length_append]
    omega
  · simp

theorem seenBytes_len (id : Int) (x : List Int) (P Q : Int) (s : Bool) (dim : Int) : (seenBytes id x P Q s dim).length ≤ 110 := by
  unfold seenBytes
  split
  · rename_i h
    have h1 := (seenB_iff h).2.1
    have h2 := putsIs_len x
    have h3 := putsU_len (n := id.toNat)
    have h4 := scoreBytes_len (P, Q)
    have h5 := putsU_len (n := 1)
    have h6 := putsU_len (n := 0)
    simp only [List.length_append]
    split
    · simp only [List.length_append]; omega
    · omega
  · simp

set_option maxRecDepth 100000 in
set_option maxHeartbeats 16000000 in
theorem putSeen_any (v : Value) (pre : List Int) (id P Q dim : Int) (s : Bool) (vx : Value) (x : List Int) (w : World) (h : Ints .u8 w v pre) (hx : Ints .i64 w vx x) (hb : pre.length ≤ 9000) :
    Calls Try.prog 46 #[v, .agg #[.int .i64 id, vx, .int .i64 P, .int .i64 Q, .bool s], .int .i64 dim] w fun e w' => ∃ v', e = .returned v' ∧ Ints .u8 w' v' (pre ++ seenBytes id x P Q s dim) ∧ Below w.heap.size w w' := by
  have HP := Lib.hid h
  have HX := Lib.hid hx
  obtain ⟨pa, pc, rfl⟩ := h.shape
  obtain ⟨xa, xc, rfl⟩ := hx.shape
  have HRS := Lib.hid (fun W (hW : Ints .i64 W (.slice xa x.length xc) x) => rightSeen_any id P Q dim s _ x W hW)
  clear hx
  cases hs : seenB id x P Q s dim with
  | false =>
    have HC := Lib.hid (fun W (hW : Ints .u8 W (.slice pa pre.length pc) pre) => clone8_any _ pre W hW (by omega))
    have HSB := Lib.hid (show seenBytes id x P Q s dim = [] by unfold seenBytes; rw [hs]; rfl)
    rw [hs] at HRS
    clear hs h
    have HN := Lib.hid (show pre.length ≤ 9000 from hb)
    go_enter Try.func46, Try.ntmps46
    go_wp2_with fail
    (with_reducible refine (HRS.out _ (HX.out.below (by (repeat (first | with_reducible exact Below.refl _ _ | with_reducible refine Bs ?_ | with_reducible refine Ba ?_ | with_reducible refine Bd ?_ | with_reducible refine Bn ?_))))).mono ?_); rintro e w1 ⟨rfl, b1⟩; have s1 : w.heap.size + 1 ≤ w1.heap.size := sz b1; have B1 := Lib.hid (Bc (B := w.heap.size) (a := w) (by (repeat (first | with_reducible exact Below.refl _ _ | with_reducible refine Bs ?_ | with_reducible refine Ba ?_ | with_reducible refine Bd ?_ | with_reducible refine Bn ?_))) b1); clear b1
    go_wp2_with fail
    (with_reducible refine (HC.out _ (HP.out.below (by (repeat (first | with_reducible exact Below.refl _ _ | with_reducible refine Bs ?_ | with_reducible refine Ba ?_ | with_reducible refine Bd ?_ | with_reducible refine Bn ?_ | with_reducible refine Bt B1.out ?_))))).mono ?_)
    rintro e w2 ⟨v2, rfl, o2, b2⟩
    have B2 := Lib.hid (below_tr B1.out (b2.mono (by omega)))
    go_wp2_with fail
    go_ret
    exact ⟨_, rfl, by rw [HSB.out, List.append_nil]; exact (Ints.own o2 (by have := HN.out; omega)).2, B2.out⟩
  | true =>
    obtain ⟨⟨i1, i2⟩, hl, h64, hsc⟩ := seenB_iff hs
    have HL := Lib.hid hl
    have H64 := Lib.hid h64
    have HB := Lib.hid hb
    have HSB := Lib.hid (show seenBytes id x P Q s dim = putsU id.toNat ++ putsIs x ++ (if s = true then putsU 1 ++ scoreBytes (P, Q) else putsU 0) by unfold seenBytes; rw [if_pos hs])
    rw [hs] at HRS
    have HI1 := Lib.hid (And.intro (show (0 : Int) ≤ id by omega) (show id ≤ 9223372036854775807 by omega))
    clear h h64 hb i1 i2 hsc hs
    go_enter Try.func46, Try.ntmps46
    go_wp2_with fail
    (with_reducible refine (HRS.out _ (HX.out.below (by (repeat (first | with_reducible exact Below.refl _ _ | with_reducible refine Bs ?_ | with_reducible refine Ba ?_ | with_reducible refine Bd ?_ | with_reducible refine Bn ?_))))).mono ?_); rintro e w1 ⟨rfl, b1⟩; have s1 : w.heap.size + 1 ≤ w1.heap.size := sz b1; have B1 := Lib.hid (Bc (B := w.heap.size) (a := w) (by (repeat (first | with_reducible exact Below.refl _ _ | with_reducible refine Bs ?_ | with_reducible refine Ba ?_ | with_reducible refine Bd ?_ | with_reducible refine Bn ?_))) b1); obtain ⟨c1_0, c1_1, c1_2, c1_3, c1_4⟩ := k5 (w.heap.size) (.int .i64 id) (.slice xa x.length xc) (.int .i64 P) (.int .i64 Q) (.bool s) b1 (by and_intros <;> go_simp); obtain ⟨l1_0, n1_0, m1_0⟩ := lnm (show w.heap.size < w1.heap.size by omega); clear b1
    go_wp2_with fail
    (with_reducible refine (nats1_any _ _ id _ _ (by rfl) (HP.out.below (by (repeat (first | with_reducible exact Below.refl _ _ | with_reducible refine Bs ?_ | with_reducible refine Ba ?_ | with_reducible refine Bd ?_ | with_reducible refine Bn ?_ | with_reducible refine Bt B1.out ?_)))) HI1.out (by have := HB.out; omega)).mono ?_); rintro e w2 ⟨v2, l2, rfl, e2, g2, i2, b2⟩; have s2 : w1.heap.size ≤ w2.heap.size := sz b2; have B2 := Lib.hid (Bc (B := w.heap.size) (a := w) (by (repeat (first | with_reducible exact Below.refl _ _ | with_reducible refine Bs ?_ | with_reducible refine Ba ?_ | with_reducible refine Bd ?_ | with_reducible refine Bn ?_ | with_reducible refine Bt B1.out ?_))) b2); obtain ⟨c2_0, c2_1, c2_2, c2_3, c2_4⟩ := k5 (w.heap.size) (.int .i64 id) (.slice xa x.length xc) (.int .i64 P) (.int .i64 Q) (.bool s) b2 (by and_intros <;> go_simp); obtain ⟨l2_0, n2_0, m2_0⟩ := lnm (show w.heap.size < w2.heap.size by omega); clear b2
    have G2 := Lib.hid (show l2.length ≤ 9100 by have := HB.out; omega)
    have I2 := Lib.hid i2; have E2 := Lib.hid e2; clear i2 e2 g2
    go_wp2_with fail
    have hl2 : (x.length : Int) ≤ 8 := by omega
    obtain ⟨n, hn⟩ : ∃ n, x.length = n := ⟨_, rfl⟩
    have HN := Lib.hid hn
    rw [hn] at hl hl2 HX c2_1 ⊢
    clear hn
    go_loopw [7, 9, 24] (fun vb _ i wr => ∃ k : Nat, i = .int .i64 k ∧ k ≤ n ∧ Ints .u8 wr vb (l2 ++ putsIs (x.take k)) ∧ Below w2.heap.size w2 wr) (fun _ _ i _ => n - (intOf i).toNat)
    case atStart => exact ⟨0, rfl, by omega, by simpa [putsIs] using I2.out, by (repeat (first | with_reducible exact Below.refl _ _ | with_reducible refine Bs ?_ | with_reducible refine Ba ?_ | with_reducible refine Bd ?_ | with_reducible refine Bn ?_))⟩
    case round =>
      obtain ⟨k, rfl, hk, hi, hbr⟩ := hrel
      have HI := Lib.hid hi
      have HBR := Lib.hid hbr
      have i1 : (0 : Int) ≤ (k : Int) := by omega
      obtain ⟨ba, bc, rfl⟩ := hi.shape
      have hsz := hbr.size
      have hlb : (l2 ++ putsIs (x.take k)).length ≤ 9200 := by
        have h1 := putsIs_len (x.take k)
        have h2 : (x.take k).length ≤ 8 := by rw [List.length_take]; omega
        have := G2.out
        rw [List.length_append]
        omega
      obtain ⟨bl, hbl⟩ : ∃ bl, (l2 ++ putsIs (x.take k)).length = bl := ⟨_, rfl⟩
      rw [hbl] at HI hlb ⊢
      have HBL := Lib.hid hbl
      have hbx := (HX.out.below (show Below w.heap.size w wr from by (repeat (first | with_reducible exact Below.refl _ _ | with_reducible refine Bs ?_ | with_reducible refine Ba ?_ | with_reducible refine Bd ?_ | with_reducible refine Bn ?_ | with_reducible refine Bt B2.out ?_ | with_reducible refine Bt HBR.out ?_))))
      have e0 : wr.cell? ⟨w.heap.size, 0, none⟩ = some (.int .i64 id) := (hbr.cell (by first | omega | (simp; done) | (simp; omega))).trans (by go_simp)
      have e1 : wr.cell? ⟨w.heap.size, 1, none⟩ = some (.slice xa n xc) := (hbr.cell (by first | omega | (simp; done) | (simp; omega))).trans (by go_simp)
      have e2 : wr.cell? ⟨w.heap.size, 2, none⟩ = some (.int .i64 P) := (hbr.cell (by first | omega | (simp; done) | (simp; omega))).trans (by go_simp)
      have e3 : wr.cell? ⟨w.heap.size, 3, none⟩ = some (.int .i64 Q) := (hbr.cell (by first | omega | (simp; done) | (simp; omega))).trans (by go_simp)
      have e4 : wr.cell? ⟨w.heap.size, 4, none⟩ = some (.bool s) := (hbr.cell (by first | omega | (simp; done) | (simp; omega))).trans (by go_simp)
      clear hbl hi
      by_cases hlt : k < n
      · obtain ⟨z, hz⟩ := getElem?_ex (l := x) (k := k) (by rw [HN.out]; exact hlt)
        obtain ⟨b, o, hxa, hbw, c0⟩ := hbx.at hz
        subst hxa
        have hz64 := H64.out z (List.mem_of_getElem? hz)
        have HK := Lib.hid (putsIs_next hz)
        have HPI := Lib.hid (fun W (hW : Ints .u8 W (.slice ba bl bc) (l2 ++ putsIs (x.take k))) => putI_any _ _ z W hW (by rw [HBL.out]; omega) hz64)
        have i2 : (k : Int) < (n : Int) := by omega
        clear hbr hbx hz hz64 hbw
        go_wp2_with fail
        (with_reducible refine (HPI.out _ HI.out).mono ?_)
        rintro e w4 ⟨v4, rfl, o4, b4⟩
        have O4 := Lib.hid (o4.ints' (by have := putsU_len (n := zig z); rw [List.length_append, HBL.out]; unfold putsI; omega))
        have B4 := Lib.hid (show Below wr.heap.size wr w4 from below_tr (by (repeat (first | with_reducible exact Below.refl _ _ | with_reducible refine Bs ?_ | with_reducible refine Ba ?_ | with_reducible refine Bd ?_ | with_reducible refine Bn ?_))) (b4.mono (by first | omega | (simp; done) | (simp; omega))))
        clear b4 o4
        go_wp2_with fail
        go_roundw
        case rel => exact ⟨k + 1, by go_num, by omega, by rw [HK.out, ← List.append_assoc]; exact O4.out, by (repeat (first | with_reducible exact Below.refl _ _ | with_reducible refine Bs ?_ | with_reducible refine Ba ?_ | with_reducible refine Bd ?_ | with_reducible refine Bn ?_ | with_reducible refine Bt B4.out ?_ | with_reducible refine Bt HBR.out ?_))⟩
        case measure => simp [intOf] <;> omega
      · obtain rfl : k = n := by omega
        have htk : x.take k = x := List.take_of_length_le (by rw [HN.out]; exact Nat.le_refl _)
        rw [htk] at HI HBL
        have HLB := Lib.hid hlb
        have B3 := Lib.hid (show Below w.heap.size w wr from by (repeat (first | with_reducible exact Below.refl _ _ | with_reducible refine Bs ?_ | with_reducible refine Ba ?_ | with_reducible refine Bd ?_ | with_reducible refine Bn ?_ | with_reducible refine Bt B2.out ?_ | with_reducible refine Bt HBR.out ?_)))
        clear htk hbr hbx hlb
        cases s with
        | false =>
          go_wp2_with fail
          (with_reducible refine (nats1_any _ _ 0 _ _ (by rfl) HI.out ⟨by decide, by decide⟩ (by rw [HBL.out]; have := HLB.out; omega)).mono ?_)
          rintro e w5 ⟨v5, l5, rfl, e5, g5, i5, b5⟩
          have I5 := Lib.hid i5
          have B5 := Lib.hid (below_tr B3.out (b5.mono (by first | omega | (simp; done) | (simp; omega))))
          have E5 := Lib.hid e5
          clear i5 b5 e5 g5
          go_wp2_with fail
          go_ret
          have r := I5.out
          rw [E5.out, E2.out] at r
          have r2 : Ints .u8 w5 v5 (pre ++ seenBytes id x P Q false dim) := by (rw [HSB.out]; simpa only [List.append_assoc, Bool.false_eq_true, if_false, Int.toNat_zero] using r)
          exact ⟨_, rfl, r2, B5.out⟩
        | true =>
          go_wp2_with fail
          refine wp_region_held_drew (S := fun w' => w'.cell? ⟨w.heap.size, 2, none⟩ = some (.int .i64 P) ∧ w'.cell? ⟨w.heap.size, 3, none⟩ = some (.int .i64 Q)) (by kernel_rfl) ?_ (fun hHeld => ?_); (focus ((try dsimp only); first | trivial | (and_intros <;> first | (go_simp; done) | (go_keep; done)))); (refine lexTk 0 (v := ?_) rfl hHeld ?_ (by kernel_rfl) (fun _ _ _ h => h) ?_ ?_; rotate_left 2; (focus rfl); (focus (intro w hSw; (try dsimp only at hSw); first | (go_simp; done) | (go_simp; with_reducible rfl)))); (try simp only [Act.put, List.setIfInBounds_toArray, List.set_cons_zero, List.set_cons_succ]); (refine lexTk 3 (v := ?_) rfl hHeld ?_ (by kernel_rfl) (fun _ _ _ h => h) ?_ ?_; rotate_left 2; (focus rfl); (focus (intro w hSw; (try dsimp only at hSw); first | (go_simp; done) | (go_simp; with_reducible rfl)))); (try simp only [Act.put, List.setIfInBounds_toArray, List.set_cons_zero, List.set_cons_succ]); (refine lexTk 4 (v := ?_) rfl hHeld ?_ (by kernel_rfl) (fun _ _ _ h => h) ?_ ?_; rotate_left 2; (focus rfl); (focus (intro w hSw; (try dsimp only at hSw); first | (go_simp; done) | (go_simp; with_reducible rfl)))); (try simp only [Act.put, List.setIfInBounds_toArray, List.set_cons_zero, List.set_cons_succ]); refine lexHv 1 rfl ?_ (by kernel_rfl); (intro K hK); (go_simp); refine hK.out _ _ ?_ ?_; (focus ((try dsimp only); first | trivial | (and_intros <;> first | (go_simp; done) | (go_keep; done)))); (clear hHeld hK K); (intro hHeld); (try simp only [Act.put, List.setIfInBounds_toArray, List.set_cons_zero, List.set_cons_succ]); refine lexHv 2 rfl ?_ (by kernel_rfl); (intro K hK); (go_simp; (go_at_call 94; (with_reducible refine (nats_any _ _ _ [1] _ (HI.out.below (by (repeat (first | with_reducible exact Below.refl _ _ | with_reducible refine Bs ?_ | with_reducible refine Ba ?_ | with_reducible refine Bd ?_ | with_reducible refine Bn ?_)))) ((newI1 1 wr 3 _ (by rfl)).drew) (by intro y hy; simp at hy; subst hy; decide) (by rw [HBL.out]; have := HLB.out; simp; omega)).mono ?_); rintro e w5 ⟨v5, rfl, i5, b5⟩; have E5 := Lib.hid (show l2 ++ putsIs x ++ natsB [1] = l2 ++ putsIs x ++ putsU 1 by simp [natsB]); rw [E5.out] at i5; have I5 := Lib.hid i5; have B5 := Lib.hid (Bc (B := w.heap.size) (a := w) (by (repeat (first | with_reducible exact Below.refl _ _ | with_reducible refine Bs ?_ | with_reducible refine Ba ?_ | with_reducible refine Bd ?_ | with_reducible refine Bn ?_ | with_reducible refine Bt B3.out ?_))) b5); have G5 := Lib.hid (show (l2 ++ putsIs x ++ putsU 1).length ≤ 9300 by (rw [List.length_append, HBL.out]; have := HLB.out; have := putsU_len (n := 1); omega)); have s5 : wr.heap.size ≤ w5.heap.size := sz b5; have f2 : w5.cell? ⟨w.heap.size, 2, none⟩ = some (.int .i64 P) := kc b5 (by go_simp) (by first | omega | (simp; done) | (simp; omega)); have f3 : w5.cell? ⟨w.heap.size, 3, none⟩ = some (.int .i64 Q) := kc b5 (by go_simp) (by first | omega | (simp; done) | (simp; omega)); clear i5 b5); (try go_wp2_with fail)); refine hK.out _ _ ?_ ?_; (focus ((try dsimp only); first | trivial | (and_intros <;> first | (go_simp; done) | (go_keep; done)))); (clear hHeld hK K); (intro hHeld); (try simp only [Act.put, List.setIfInBounds_toArray, List.set_cons_zero, List.set_cons_succ]); refine lexHv 5 rfl ?_ (by kernel_rfl); (intro K hK); (go_simp; (go_at_call 28; (with_reducible refine (putScore_any _ _ P Q _ I5.out (by have := G5.out; omega)).mono ?_); rintro e w6 ⟨v6, rfl, i6, b6⟩; have I6 := Lib.hid i6; have B6 := Lib.hid (below_tr B5.out (b6.mono (by first | omega | (simp; done) | (simp; omega)))); have h2 : w6.cell? ⟨w.heap.size, 2, none⟩ = some (.int .i64 P) := kc b6 f2 (by omega); have h3 : w6.cell? ⟨w.heap.size, 3, none⟩ = some (.int .i64 Q) := kc b6 f3 (by omega); clear i6 b6); (try go_wp2_with fail)); refine hK.out _ _ ?_ ?_; (focus ((try dsimp only); first | trivial | (and_intros <;> first | (go_simp; done) | (go_keep; done)))); (clear hHeld hK K); (intro hHeld); (try simp only [Act.put, List.setIfInBounds_toArray, List.set_cons_zero, List.set_cons_succ]); (refine lexTk 6 (v := ?_) rfl hHeld ?_ (by kernel_rfl) (fun _ _ _ h => h) ?_ ?_; rotate_left 2; (focus rfl); (focus (intro w hSw; (try dsimp only at hSw); first | (go_simp; done) | (go_simp; with_reducible rfl)))); (try simp only [Act.put, List.setIfInBounds_toArray, List.set_cons_zero, List.set_cons_succ]); refine wpAnyH_done (by kernel_rfl) ?_ _
          go_wp2_with fail
          go_ret
          have r := I6.out
          rw [E2.out] at r
          have r2 : Ints .u8 w6 v6 (pre ++ seenBytes id x P Q true dim) := by (rw [HSB.out]; simpa only [List.append_assoc, if_true, Int.toNat_one] using r)
          exact ⟨_, rfl, r2, B6.out⟩
theorem newB1 (z : Int) (W : World) (T : TypeId) (b : Nat) (hb : b = W.heap.size) : Ints .u8 (W.alloc (.cells #[.int .u8 z] T)) (.slice (some ⟨b, 0, none⟩) 1 1) [z] :=
  Ints.new' .u8 W T #[.int .u8 z] [z] b 1 1 hb rfl rfl (by omega) (by omega)

set_option maxRecDepth 100000 in
set_option maxHeartbeats 16000000 in
theorem rseen22_any (id P Q dim : Int) (s : Bool) (vx : Value) (x : List Int) (w : World) (hx : Ints .i64 w vx x) :
    Calls Try.prog 47 #[.agg #[.int .i64 id, vx, .int .i64 P, .int .i64 Q, .bool s], .int .i64 dim] w fun e w' => ∃ v', e = .returned v' ∧ Ints .u8 w' v' (seenBytes id x P Q s dim) ∧ Below w.heap.size w w' := by
  have HX := Lib.hid hx
  obtain ⟨xa, xc, rfl⟩ := hx.shape
  have HRS := Lib.hid (fun W (hW : Ints .i64 W (.slice xa x.length xc) x) => rrightSeen_any id P Q dim s _ x W hW)
  clear hx
  cases hs : seenB id x P Q s dim with
  | false =>
    have HSB := Lib.hid (show seenBytes id x P Q s dim = [] by unfold seenBytes; rw [hs]; rfl)
    rw [hs] at HRS
    clear hs
    go_enter Try.func47, Try.ntmps47
    go_wp2_with fail
    (with_reducible refine (HRS.out _ (HX.out.below (by (repeat (first | with_reducible exact Below.refl _ _ | with_reducible refine Bs ?_ | with_reducible refine Ba ?_ | with_reducible refine Bd ?_ | with_reducible refine Bn ?_))))).mono ?_); rintro e w1 ⟨rfl, b1⟩; have s1 : w.heap.size + 1 ≤ w1.heap.size := sz b1; have B1 := Lib.hid (Bc (B := w.heap.size) (a := w) (by (repeat (first | with_reducible exact Below.refl _ _ | with_reducible refine Bs ?_ | with_reducible refine Ba ?_ | with_reducible refine Bd ?_ | with_reducible refine Bn ?_))) b1); clear b1
    go_wp2_with fail
    go_ret
    exact ⟨_, rfl, by rw [HSB.out]; exact ints_nil _ _ _ _ (by omega), B1.out⟩
  | true =>
    obtain ⟨⟨i1, i2⟩, hl, h64, _⟩ := seenB_iff hs
    have HL := Lib.hid hl
    have H64 := Lib.hid h64
    have HSB := Lib.hid (show seenBytes id x P Q s dim = putsU id.toNat ++ putsIs x ++ (if s = true then putsU 1 ++ scoreBytes (P, Q) else putsU 0) by unfold seenBytes; rw [if_pos hs])
    rw [hs] at HRS
    obtain ⟨D, rfl⟩ : ∃ D : Nat, id = (D : Int) := ⟨id.toNat, by omega⟩
    have H1 := Lib.hid (fun W => rU_any D W (by omega))
    have HL1 := Lib.hid (putsU_len (n := D))
    have hD : (D : Int) ≤ 18446744073709551615 := by omega
    clear h64 i1 i2 hs
    go_enter Try.func47, Try.ntmps47
    go_wp2_with fail
    (with_reducible refine (HRS.out _ (HX.out.below (by (repeat (first | with_reducible exact Below.refl _ _ | with_reducible refine Bs ?_ | with_reducible refine Ba ?_ | with_reducible refine Bd ?_ | with_reducible refine Bn ?_))))).mono ?_); rintro e w1 ⟨rfl, b1⟩; have s1 : w.heap.size + 1 ≤ w1.heap.size := sz b1; have B1 := Lib.hid (Bc (B := w.heap.size) (a := w) (by (repeat (first | with_reducible exact Below.refl _ _ | with_reducible refine Bs ?_ | with_reducible refine Ba ?_ | with_reducible refine Bd ?_ | with_reducible refine Bn ?_))) b1); obtain ⟨c1_0, c1_1, c1_2, c1_3, c1_4⟩ := k5 (w.heap.size) (.int .i64 D) (.slice xa x.length xc) (.int .i64 P) (.int .i64 Q) (.bool s) b1 (by and_intros <;> go_simp); obtain ⟨l1_0, n1_0, m1_0⟩ := lnm (show w.heap.size < w1.heap.size by omega); clear b1
    go_wp2_with fail
    (with_reducible refine (H1.out _).mono ?_); rintro e w2 ⟨v2, rfl, o2, b2⟩; have s2 : w1.heap.size ≤ w2.heap.size := sz b2; have B2 := Lib.hid (Bc (B := w.heap.size) (a := w) (by (repeat (first | with_reducible exact Below.refl _ _ | with_reducible refine Bs ?_ | with_reducible refine Ba ?_ | with_reducible refine Bd ?_ | with_reducible refine Bn ?_ | with_reducible refine Bt B1.out ?_))) b2); obtain ⟨c2_0, c2_1, c2_2, c2_3, c2_4⟩ := k5 (w.heap.size) (.int .i64 D) (.slice xa x.length xc) (.int .i64 P) (.int .i64 Q) (.bool s) b2 (by and_intros <;> go_simp); obtain ⟨l2_0, n2_0, m2_0⟩ := lnm (show w.heap.size < w2.heap.size by omega); clear b2
    have O2 := Lib.hid o2
    clear o2
    go_wp2_with fail
    have hl2 : (x.length : Int) ≤ 8 := by omega
    obtain ⟨n, hn⟩ : ∃ n, x.length = n := ⟨_, rfl⟩
    have HN := Lib.hid hn
    rw [hn] at hl hl2 HX c2_1 ⊢
    clear hn
    go_loopw [5, 6] (fun vb i wr => ∃ k : Nat, i = .int .i64 k ∧ k ≤ n ∧ OwnB wr w1.heap.size vb (putsU D ++ putsIs (x.take k)) ∧ Below w1.heap.size w2 wr) (fun _ i _ => n - (intOf i).toNat)
    case atStart => exact ⟨0, rfl, by omega, by simpa [putsIs] using O2.out, by (repeat (first | with_reducible exact Below.refl _ _ | with_reducible refine Bs ?_ | with_reducible refine Ba ?_ | with_reducible refine Bd ?_ | with_reducible refine Bn ?_))⟩
    case round =>
      obtain ⟨k, rfl, hk, ho, hbr⟩ := hrel
      have HO := Lib.hid ho
      have HBR := Lib.hid hbr
      have i1 : (0 : Int) ≤ (k : Int) := by omega
      have hsz := hbr.size
      have hlb : (putsU D ++ putsIs (x.take k)).length ≤ 99 := by
        have h1 := putsIs_len (x.take k)
        have h2 : (x.take k).length ≤ 8 := by rw [List.length_take]; omega
        have := HL1.out
        rw [List.length_append]
        omega
      have HLB := Lib.hid hlb
      have hbx := (HX.out.below (show Below w.heap.size w wr from by (repeat (first | with_reducible exact Below.refl _ _ | with_reducible refine Bs ?_ | with_reducible refine Ba ?_ | with_reducible refine Bd ?_ | with_reducible refine Bn ?_ | with_reducible refine Bt B2.out ?_ | with_reducible refine Bt HBR.out ?_))))
      have e0 : wr.cell? ⟨w.heap.size, 0, none⟩ = some (.int .i64 D) := (hbr.cell (by first | omega | (simp; done) | (simp; omega))).trans (by go_simp)
      have e1 : wr.cell? ⟨w.heap.size, 1, none⟩ = some (.slice xa n xc) := (hbr.cell (by first | omega | (simp; done) | (simp; omega))).trans (by go_simp)
      have e2 : wr.cell? ⟨w.heap.size, 2, none⟩ = some (.int .i64 P) := (hbr.cell (by first | omega | (simp; done) | (simp; omega))).trans (by go_simp)
      have e3 : wr.cell? ⟨w.heap.size, 3, none⟩ = some (.int .i64 Q) := (hbr.cell (by first | omega | (simp; done) | (simp; omega))).trans (by go_simp)
      have e4 : wr.cell? ⟨w.heap.size, 4, none⟩ = some (.bool s) := (hbr.cell (by first | omega | (simp; done) | (simp; omega))).trans (by go_simp)
      clear ho hlb
      by_cases hlt : k < n
      · obtain ⟨z, hz⟩ := getElem?_ex (l := x) (k := k) (by rw [HN.out]; exact hlt)
        obtain ⟨b, o, hxa, hbw, c0⟩ := hbx.at hz
        subst hxa
        have HK := Lib.hid (putsIs_next hz)
        have HZ := Lib.hid (H64.out z (List.mem_of_getElem? hz))
        have i2 : (k : Int) < (n : Int) := by omega
        clear hbr hbx hz hbw
        go_wp2_with fail
        (with_reducible refine (rI_any z _ HZ.out).mono ?_)
        rintro e w4 ⟨v4, rfl, o4, b4⟩
        have hpl := putsU_len (n := zig z)
        have O4 := Lib.hid (o4.ints' (by unfold putsI; omega))
        have HO4 := Lib.hid (OwnB.below HO.out b4)
        have s4 : wr.heap.size ≤ w4.heap.size := sz b4
        have B4 := Lib.hid (Bc (B := w1.heap.size) (a := w2) (by (repeat (first | with_reducible exact Below.refl _ _ | with_reducible refine Bs ?_ | with_reducible refine Ba ?_ | with_reducible refine Bd ?_ | with_reducible refine Bn ?_ | with_reducible refine Bt HBR.out ?_))) b4)
        have HPL := Lib.hid (show (putsI z).length ≤ 9 from hpl)
        have hbx4 := Lib.hid (show Below w.heap.size w w4 from by (repeat (first | with_reducible exact Below.refl _ _ | with_reducible refine Bs ?_ | with_reducible refine Ba ?_ | with_reducible refine Bd ?_ | with_reducible refine Bn ?_ | with_reducible refine Bt B2.out ?_ | with_reducible refine Bt B4.out ?_)))
        clear b4 o4 hpl
        go_wp2_with (at_builtin; go_must (refine appInts rfl _ _ 48 rfl Try.underlying48 eiU8 w1.heap.size (by rfl) HO4.out (by rfl) O4.out (by have := HLB.out; have := HPL.out; omega) (by omega) ?_))
        intro v5 w5 ho5 hb5 hg5
        have O5 := Lib.hid (show OwnB w5 w1.heap.size v5 (putsU D ++ putsIs (x.take (k + 1))) by (rw [HK.out]; unfold OwnB; simpa only [List.map_append, List.length_append, List.append_assoc, Nat.add_assoc] using ho5))
        have B5 := Lib.hid (Bc (B := w1.heap.size) (a := w2) B4.out hb5)
        have s5 := hb5.size
        clear ho5 hb5 hg5
        have q0 : w5.cell? ⟨w.heap.size, 0, none⟩ = some (.int .i64 D) := kc B5.out c2_0 (by omega)
        go_wp2_with fail
        go_roundw
        case rel => exact ⟨k + 1, by go_num, by omega, O5.out, B5.out⟩
        case measure => simp [intOf] <;> omega
      · obtain rfl : k = n := by omega
        have htk : x.take k = x := List.take_of_length_le (by rw [HN.out]; exact Nat.le_refl _)
        rw [htk] at HO HLB
        have B3 := Lib.hid (show Below w.heap.size w wr from by (repeat (first | with_reducible exact Below.refl _ _ | with_reducible refine Bs ?_ | with_reducible refine Ba ?_ | with_reducible refine Bd ?_ | with_reducible refine Bn ?_ | with_reducible refine Bt B2.out ?_ | with_reducible refine Bt HBR.out ?_)))
        clear htk hbr hbx
        cases s with
        | false =>
          go_wp2_with (at_builtin; go_must (refine appInts rfl _ _ 48 rfl Try.underlying48 eiU8 w1.heap.size (by rfl) (OwnB.below HO.out (by (repeat (first | with_reducible exact Below.refl _ _ | with_reducible refine Bs ?_ | with_reducible refine Ba ?_ | with_reducible refine Bd ?_ | with_reducible refine Bn ?_)))) (by rfl) (newB1 0 wr _ _ (by rfl)) (by have hq := HLB.out; rw [List.length_append] at hq; simp; omega) (by simp; omega) ?_))
          intro v5 w5 ho5 hb5 _
          have O5 := Lib.hid (show OwnB w5 w1.heap.size v5 (putsU D ++ putsIs x ++ putsU 0) by (unfold OwnB; simpa [putsU, Nat.add_assoc] using ho5))
          have B5 := Lib.hid (show Below w.heap.size w w5 from Bc (by (repeat (first | with_reducible exact Below.refl _ _ | with_reducible refine Bs ?_ | with_reducible refine Ba ?_ | with_reducible refine Bd ?_ | with_reducible refine Bn ?_ | with_reducible refine Bt B3.out ?_))) hb5 (by omega))
          clear ho5 hb5
          go_wp2_with fail
          go_ret
          have r2 : Ints .u8 w5 v5 (seenBytes D x P Q false dim) := by (rw [HSB.out]; simpa only [Bool.false_eq_true, if_false, Int.toNat_natCast] using O5.out.ints' (by have hq := HLB.out; have := putsU_len (n := 0); simp only [List.length_append] at hq ⊢; omega))
          exact ⟨_, rfl, r2, B5.out⟩
        | true =>
          go_wp2_with (at_builtin; go_must (refine appInts rfl _ _ 48 rfl Try.underlying48 eiU8 w1.heap.size (by rfl) (OwnB.below HO.out (by (repeat (first | with_reducible exact Below.refl _ _ | with_reducible refine Bs ?_ | with_reducible refine Ba ?_ | with_reducible refine Bd ?_ | with_reducible refine Bn ?_)))) (by rfl) (newB1 1 wr _ _ (by rfl)) (by have hq := HLB.out; rw [List.length_append] at hq; simp; omega) (by simp; omega) ?_))
          intro v5 w5 ho5 hb5 _
          have O5 := Lib.hid (show OwnB w5 w1.heap.size v5 (putsU D ++ putsIs x ++ putsU 1) by (unfold OwnB; simpa [putsU, Nat.add_assoc] using ho5))
          have B5 := Lib.hid (show Below w.heap.size w w5 from Bc (by (repeat (first | with_reducible exact Below.refl _ _ | with_reducible refine Bs ?_ | with_reducible refine Ba ?_ | with_reducible refine Bd ?_ | with_reducible refine Bn ?_ | with_reducible refine Bt B3.out ?_))) hb5 (by omega))
          have s5 := hb5.size
          obtain ⟨y1, y2, y3⟩ := lnm (show w.heap.size < wr.heap.size by omega)
          have q2 : w5.cell? ⟨w.heap.size, 2, none⟩ = some (.int .i64 P) := kc hb5 (by go_simp) (by omega)
          have q3 : w5.cell? ⟨w.heap.size, 3, none⟩ = some (.int .i64 Q) := kc hb5 (by go_simp) (by omega)
          clear ho5 hb5
          go_wp2_with fail
          (with_reducible refine (rscore22_any P Q _).mono ?_)
          rintro e w6 ⟨v6, rfl, i6, b6⟩
          have I6 := Lib.hid i6
          have O6 := Lib.hid (OwnB.below O5.out b6)
          have B6 := Lib.hid (Bc (B := w.heap.size) (a := w) B5.out b6 (by simp at s5; omega))
          have s6 : w5.heap.size ≤ w6.heap.size := sz b6
          have SL := Lib.hid (scoreBytes_len (P, Q))
          have S5 := Lib.hid (show (putsU D ++ putsIs x ++ putsU 1).length ≤ 200 by (have hq := HLB.out; have := putsU_len (n := 1); simp only [List.length_append] at hq ⊢; omega))
          clear i6 b6
          go_wp2_with (at_builtin; go_must (refine appInts rfl _ _ 48 rfl Try.underlying48 eiU8 w1.heap.size (by rfl) O6.out (by rfl) I6.out (by have := S5.out; have := SL.out; omega) (by simp at s5; omega) ?_))
          intro v7 w7 ho7 hb7 _
          have O7 := Lib.hid (show OwnB w7 w1.heap.size v7 (putsU D ++ putsIs x ++ putsU 1 ++ scoreBytes (P, Q)) by (unfold OwnB; simpa [Nat.add_assoc] using ho7))
          have B7 := Lib.hid (show Below w.heap.size w w7 from Bc B6.out hb7 (by omega))
          clear ho7 hb7
          go_wp2_with fail
          go_ret
          have r2 : Ints .u8 w7 v7 (seenBytes D x P Q true dim) := by (rw [HSB.out]; simpa only [if_true, List.append_assoc, Int.toNat_natCast] using O7.out.ints' (by have h1 := S5.out; have h2 := SL.out; simp only [List.length_append] at h1 ⊢; omega))
          exact ⟨_, rfl, r2, B7.out⟩
end Go.Proofs.Ytjmjnkilgoelbaa
