/-
  Walk of copseref02.Text.
-/
import Derived.Test.YticpmcghdoiceaaTextMath
import Derived.Test.YticpmcghdoiceaaRefWideQ
namespace Go.Proofs.Yticpmcghdoiceaa
open Go.RowKit

theorem slice_digit {r : Nat} (h : r < 10) (W : World) :
    (Instr.slice 9 (.string ⟨#[48, 49, 50, 51, 52, 53, 54, 55, 56, 57]⟩) (some (.int .i64 (r : Int))) (some (.int .i64 ((r : Int) + 1))) none).run Try.prog W = .ok (.string (strOfNums [48 + (r : Int)])) W := by
  rw [run_slice_string W 9 _ .i64 .i64 (r : Int) ((r : Int) + 1) Try.underlying9 (by omega) (by omega) (by show (r : Int) + 1 ≤ (10 : Nat); omega)]
  have key : ∀ r, r < 10 → (⟨#[48, 49, 50, 51, 52, 53, 54, 55, 56, 57]⟩ : ByteArray).extract r (r + 1) = strOfNums [48 + (r : Int)] := by decide +kernel
  rw [show ((r : Int) + 1).toNat = r + 1 by omega, show ((r : Int)).toNat = r by omega, key r h]

theorem nums_app (a b : List Int) : strOfNums a ++ strOfNums b = strOfNums (a ++ b) := by
  apply ByteArray.ext
  rw [ByteArray.data_append]
  simp [strOfNums]

theorem nums_some {a : List Int} (h : a ≠ []) : (strOfNums a).toList.isEmpty = false := by
  have h1 := toList_len (strOfNums a)
  rw [strOfNums_size] at h1
  cases h3 : (strOfNums a).toList with
  | nil => rw [h3] at h1; exact absurd (List.eq_nil_of_length_eq_zero h1.symm) h
  | cons x l => rfl

def strLen : Value → Nat | .string s => s.size | _ => 0

theorem ten_step {V q r x n : Nat} (hV : V = 10 * q + r) (hr : r < 10) (hx : x < 65536) (hn : n = r * 65536 + x) : x + 65536 * V = 10 * (n / 10 + 65536 * q) + n % 10 ∧ n % 10 < 10 ∧ n / 10 < 65536 ∧ n < 655360 := by omega

theorem ten_digs {a q : Nat} (ha : a < 65536) (h : 0 < a ∨ 0 < q) : digs (a + 65536 * q) = (a : Int) :: digs q := by
  rw [digs_pos (by omega), show (a + 65536 * q) % 65536 = a by omega, show (a + 65536 * q) / 65536 = q by omega]

set_option maxRecDepth 100000 in
set_option maxHeartbeats 4000000 in
theorem rText_any (n : Nat) (w : World) (hn : n < T128) :
    Calls Try.prog 26 #[WV n] w fun e w' => e = .returned (.string (strOfNums (textF 3 n))) ∧ Below w.heap.size w w' := by
  obtain ⟨T, hT⟩ : ∃ T, (wordL 39 n 0).reverse = T := ⟨_, rfl⟩
  have hR : textF 3 n = if T = [] then [48] else T := by
    rcases Nat.eq_zero_or_pos n with rfl | h
    · rw [textF_zero, ← hT, wordL_zero]; rfl
    · rw [textF_pos h hn, hT, if_neg]
      intro h0
      obtain ⟨x, e1, _⟩ := word_head 39 n h (Nat.lt_of_lt_of_le hn t128_pow)
      rw [hT, h0] at e1
      simp at e1
  have HR := Lib.hid hR
  have hbig := fun W => rBig_any n W hn
  have hlen := digs_128 hn
  obtain ⟨ah, al, _, _, _, e1⟩ := wv_ex hn
  rw [e1] at hbig ⊢
  have HBIG := Lib.hid hbig; have HT := Lib.hid hT; have HN := Lib.hid hn
  clear hbig e1 hR hT hn
  rename_i r1 r2 r3
  clear r1 r2 r3
  go_enter Try.func26, Try.ntmps26
  go_wp2_with fail
  refine (HBIG.out _).mono ?_
  rintro e w1 ⟨v1, rfl, i1, _, b1⟩
  have B1 := Lib.hid (show Below w.heap.size w w1 from below_tr (by (repeat (first | with_reducible exact Below.refl _ _ | ((with_reducible refine Below.setCell ?_ ?_ _); rotate_left; (focus (first | omega | (simp; done) | (simp; omega)))) | ((with_reducible refine Below.alloc ?_ ?_ _); rotate_left; (focus (first | omega | (simp; done) | (simp; omega)))) | (with_reducible refine Below.drew ?_) | (with_reducible refine below_drewN ?_ _)))) (b1.mono (by simp)))
  obtain ⟨a1, c1, rfl⟩ := i1.shape
  have I1 := Lib.hid i1
  clear i1 b1
  go_wp2_with fail
  go_loopw [3, 4, 5, 6, 7, 8, 9] (fun b s _ _ _ _ _ wr => ∃ (f m : Nat) (acc : List Int) (ad : Option Addr) (c : Nat), m < 10 ^ f ∧ m < T128 ∧ acc.length + f ≤ 39 ∧ b = .slice ad (digs m).length c ∧ Ints .i64 wr (.slice ad (digs m).length c) (digs m) ∧ s = .string (strOfNums acc) ∧
    (wordL f m 0).reverse ++ acc = T ∧ Below w.heap.size w wr) (fun _ s _ _ _ _ _ _ => 39 - strLen s)
  case atStart => exact ⟨39, n, [], a1, c1, Nat.lt_of_lt_of_le HN.out t128_pow, HN.out, by simp, rfl, I1.out, rfl, by simpa using HT.out, B1.out⟩
  case round =>
    obtain ⟨f, m, acc, ad, c, hmf, hmt, hacl, rfl, hI, rfl, hw, hb⟩ := hrel
    have HMF := Lib.hid hmf; have HMT := Lib.hid hmt; have HA := Lib.hid hacl; have HI := Lib.hid hI; have HW := Lib.hid hw; have HB := Lib.hid hb
    clear hmf hmt hacl hI hw hb
    rcases Nat.eq_zero_or_pos m with rfl | hm
    · have ha : acc = T := by have := HW.out; rw [wordL_zero] at this; simpa using this
      have hd0 : (digs 0).length = 0 := by rw [digs_zero]; rfl
      rw [hd0]
      by_cases hnil : acc = []
      · have HRR := Lib.hid (show textF 3 n = [48] by rw [HR.out, if_pos (by rw [← ha]; exact hnil)])
        subst hnil
        rw [show strOfNums [] = ⟨#[]⟩ from rfl]
        clear HI HW HMF HMT ha
        go_wp2_with fail
        go_ret
        exact ⟨by rw [HRR.out, show strOfNums [48] = ⟨#[48]⟩ by decide +kernel]; rfl, HB.out⟩
      · have he := nums_some hnil
        have HRR := Lib.hid (show textF 3 n = acc by rw [HR.out, if_neg (by rw [← ha]; exact hnil), ha])
        have HNIL := Lib.hid hnil
        clear HI HW HMF HMT hnil ha
        go_wp2_with fail
        go_ret
        exact ⟨by rw [HRR.out]; rfl, HB.out⟩
    · have hl8 : (digs m).length ≤ 8 := digs_128 HMT.out
      have hbv := bv_digs m
      have hdg := digs_dig m
      have hl0 : 0 < (digs m).length := by rw [digs_pos hm]; simp
      obtain ⟨l, hl⟩ : ∃ l, digs m = l := ⟨_, rfl⟩
      rw [hl] at HI hl8 hbv hdg hl0 ⊢
      have HBV := Lib.hid hbv; have HDG := Lib.hid hdg; have HL8 := Lib.hid hl8; have HM0 := Lib.hid hm
      obtain ⟨f, rfl⟩ : ∃ g, f = g + 1 := by
        cases f with
        | zero => have := HMF.out; simp at this; omega
        | succ g => exact ⟨g, rfl⟩
      have hl0' : (0 : Int) < l.length := by omega
      have hl8' : (l.length : Int) ≤ 8 := by omega
      obtain ⟨wo, hwo⟩ : ∃ x, x = wr := ⟨_, rfl⟩
      subst hwo
      clear hbv hdg hl hm hl8
      go_wp2_with fail
      go_loopw [5, 6, 7, 8, 9] (fun nx rs i _ _ wi => ∃ (k q r : Nat) (ad2 : Option Addr) (c2 : Nat), i = .int .i64 ((k : Int) - 1) ∧ k ≤ l.length ∧ bv (l.drop k) = 10 * q + r ∧ r < 10 ∧ rs = .int .i64 r ∧ nx = .slice ad2 (digs q).length c2 ∧ Ints .i64 wi (.slice ad2 (digs q).length c2) (digs q) ∧ Below wo.heap.size wo wi) (fun _ _ i _ _ _ => (intOf i + 1).toNat)
      case atStart =>
        exact ⟨l.length, 0, 0, none, 0, by go_num, by omega, by rw [List.drop_length]; rfl, by omega, rfl, by rw [digs_zero]; rfl, by rw [digs_zero]; exact Ints.nil _ _, Below.refl _ _⟩
      case round =>
        obtain ⟨k, q, r, ad2, c2, rfl, hk, hV, hr, rfl, rfl, hI2, hb2⟩ := hrel
        have HV := Lib.hid hV; have HI2 := Lib.hid hI2; have HB2 := Lib.hid hb2
        clear hV hI2 hb2
        rcases Nat.eq_zero_or_pos k with rfl | hk0
        · rw [Int.natCast_zero]
          have hm1 : m = 10 * q + r := by have := HV.out; rw [List.drop_zero, HBV.out] at this; exact this
          have hsl := fun W => slice_digit hr W
          have hac : acc.length ≤ 39 := by have := HA.out; omega
          have hno : ¬ 9223372036854775807 < (strOfNums [48 + (r : Int)]).size + (strOfNums acc).size := by rw [strOfNums_size, strOfNums_size]; simp; omega
          have hr9 : (r : Int) ≤ 9 := by omega
          have HM1 := Lib.hid hm1; have HR9 := Lib.hid hr
          clear hm1 hr hk hac
          go_wp2_with fail
          go_roundw
          case rel =>
            refine ⟨f, q, [48 + (r : Int)] ++ acc, ad2, c2, ?_, ?_, ?_, rfl, HI2.out, by rw [nums_app], ?_, HB.out.trans (HB2.out.mono HB.out.size)⟩
            · have := HMF.out; have := HM1.out; rw [Nat.pow_succ] at *; omega
            · have := HMT.out; have := HM1.out; omega
            · have := HA.out; simp; omega
            · have h1 := HW.out
              rw [wordL_pos HM0.out] at h1
              have h2 := HM1.out
              have h3 := HR9.out
              rw [show m % 10 = r by omega, show m / 10 = q by omega, List.reverse_cons, List.append_assoc] at h1
              exact h1
          case measure =>
            have := HA.out
            show 39 - (strOfNums [48 + (r : Int)] ++ strOfNums acc).size < 39 - (strOfNums acc).size
            rw [nums_app, strOfNums_size, strOfNums_size]
            simp; omega
        · obtain ⟨j, rfl⟩ : ∃ j, k = j + 1 := ⟨k - 1, by omega⟩
          have hj1 : (((j + 1 : Nat) : Int) - 1) = (j : Int) := by omega
          rw [hj1]
          obtain ⟨x, hx⟩ := getElem?_ex (l := l) (k := j) (by omega)
          have hxb := HDG.out x (List.mem_of_getElem? hx)
          obtain ⟨x, rfl⟩ := Int.eq_ofNat_of_zero_le hxb.1
          have hV2 := fit_hi hx
          rw [Int.toNat_natCast] at hV2
          obtain ⟨N, hN⟩ : ∃ N, r * 65536 + x = N := ⟨_, rfl⟩
          obtain ⟨t1, t2, t3, t4⟩ := ten_step (n := N) HV.out hr (by omega : x < 65536) hN.symm
          rw [← hV2] at t1
          have hsum : (r : Int) * 65536 + x = N := by omega
          have hrem : Int.tmod (N : Int) 10 = ((N % 10 : Nat) : Int) := rfl
          have hquo : Int.tdiv (N : Int) 10 = ((N / 10 : Nat) : Int) := rfl
          obtain ⟨A, hA⟩ : ∃ A, N / 10 = A := ⟨_, rfl⟩
          obtain ⟨D, hD⟩ : ∃ D, N % 10 = D := ⟨_, rfl⟩
          rw [hA] at t1 t3 hquo
          rw [hD] at t1 t2 hrem
          have hr9 : (r : Int) ≤ 9 := by omega
          have hN9 : (N : Int) ≤ 655359 := by omega
          have hx9 : (x : Int) ≤ 65535 := by omega
          have hA9 : (A : Int) ≤ 65535 := by omega
          have hD9 : (D : Int) ≤ 9 := by omega
          have hj9 : (j : Int) < l.length := by omega
          obtain ⟨ad0, c0, e0, hc1, hc2, _, h4⟩ := HI.out.below HB2.out
          injection e0 with e1 e2 e3
          subst e1 e3
          clear e2 hc1 hc2
          obtain ⟨b, o, rfl, _, cx⟩ := h4 j x hx
          clear h4
          have T1 := Lib.hid t1; have T2 := Lib.hid t2; have T3 := Lib.hid t3
          have HX := Lib.hid hx
          clear t1 t2 t3 t4 hA hD hN hV2 hxb hr hx
          have hqm : bv (l.drop (j + 1)) < 10 * T128 := by
            have h1 : bv (l.drop (j + 1)) ≤ bv l := by
              have h2 := bv_append (l.take (j + 1)) (l.drop (j + 1))
              rw [List.take_append_drop] at h2
              have h3 : 1 * bv (l.drop (j + 1)) ≤ 65536 ^ (l.take (j + 1)).length * bv (l.drop (j + 1)) := Nat.mul_le_mul_right _ (Nat.pow_pos (by omega))
              omega
            have h2 := HBV.out
            have h3 := HMT.out
            omega
          have hq8 : (digs q).length ≤ 8 := digs_128 (by have := HV.out; omega)
          have HQ8 := Lib.hid hq8
          clear hqm
          by_cases hA0 : 0 < A
          · have hA1 : (0 : Int) < A := by omega
            have hA2 : ¬ A = 0 := by omega
            have HQ' := Lib.hid (ten_digs (q := q) T3.out (.inl hA0))
            clear hA0 hq8 hj1
            have ho := World.ownsRow_lit (base := wo.heap.size) (e := 3) (size := 1) wr #[.int .i64 (A : Int)] 1 HB2.out.size (by decide) (by rfl)
            have HO := Lib.hid ho
            have HI3 := Lib.hid (HI2.out.below (((Below.refl _ _).alloc (Nat.le_refl _) (.cells #[.int .i64 (A : Int)] 3)) : Below wr.heap.size wr (wr.alloc (.cells #[.int .i64 (A : Int)] 3))))
            have HB3 := Lib.hid (show Below wo.heap.size wo (wr.alloc (.cells #[.int .i64 (A : Int)] 3)) from HB2.out.alloc HB2.out.size _)
            clear ho
            go_wp2_with (at_builtin; go_must (refine appInts rfl _ _ 30 rfl Try.underlying30 eiInt wo.heap.size (by rfl) HO.out (by rfl) HI3.out (by have := HQ8.out; omega) HB3.out.size ?_))
            intro v5 w5 ho5 hb5 hg5
            obtain ⟨hn5, hi5⟩ := Ints.own (l := (A : Int) :: digs q) (by simpa [Nat.add_comm] using ho5) (by have := HQ8.out; simp; omega)
            have BB5 := Lib.hid (HB3.out.trans hb5)
            have HI5 := Lib.hid hi5
            clear ho5 hb5 hg5 hi5 hn5
            obtain ⟨ad5, c5, hv5⟩ := HI5.out.shape
            subst hv5
            go_wp2_with fail
            go_roundw
            case rel =>
              exact ⟨j, A + 65536 * q, D, ad5, c5, rfl, by omega, T1.out, T2.out, rfl, by rw [HQ'.out], by rw [HQ'.out]; exact HI5.out, BB5.out⟩
            case measure => simp [intOf] <;> omega
          · obtain rfl : A = 0 := by omega
            rw [Int.natCast_zero] at hquo hA9
            rcases Nat.eq_zero_or_pos q with rfl | hq0
            · have hqd : digs (0 + 65536 * 0) = [] := digs_zero
              have hd0 : (digs 0).length = 0 := by rw [digs_zero]; rfl
              rw [hd0]
              have HQD := Lib.hid hqd; have HI0 := Lib.hid HI2.out
              clear hA0 hq8 hj1 hqd
              go_wp2_with fail
              go_roundw
              case rel =>
                refine ⟨j, 0 + 65536 * 0, D, ad2, c2, rfl, by omega, T1.out, T2.out, rfl, by rw [HQD.out]; rfl, by rw [HQD.out]; exact HI2.out, HB2.out⟩
              case measure => simp [intOf] <;> omega
            · have hql0 : (0 : Int) < (digs q).length := by rw [digs_pos hq0]; simp
              have HQ' : Hid (digs (0 + 65536 * q) = (0 : Int) :: digs q) := Lib.hid (ten_digs (a := 0) (q := q) T3.out (.inr hq0))
              clear hA0 hq8 hj1
              have ho := World.ownsRow_lit (base := wo.heap.size) (e := 3) (size := 1) wr #[.int .i64 (0 : Int)] 1 HB2.out.size (by decide) (by rfl)
              have HO := Lib.hid ho
              have HI3 := Lib.hid (HI2.out.below (((Below.refl _ _).alloc (Nat.le_refl _) (.cells #[.int .i64 (0 : Int)] 3)) : Below wr.heap.size wr (wr.alloc (.cells #[.int .i64 (0 : Int)] 3))))
              have HB3 := Lib.hid (show Below wo.heap.size wo (wr.alloc (.cells #[.int .i64 (0 : Int)] 3)) from HB2.out.alloc HB2.out.size _)
              clear ho
              go_wp2_with (at_builtin; go_must (refine appInts rfl _ _ 30 rfl Try.underlying30 eiInt wo.heap.size (by rfl) HO.out (by rfl) HI3.out (by have := HQ8.out; omega) HB3.out.size ?_))
              intro v5 w5 ho5 hb5 hg5
              obtain ⟨hn5, hi5⟩ := Ints.own (l := (0 : Int) :: digs q) (by simpa [Nat.add_comm] using ho5) (by have := HQ8.out; simp; omega)
              have BB5 := Lib.hid (HB3.out.trans hb5)
              have HI5 := Lib.hid hi5
              clear ho5 hb5 hg5 hi5 hn5
              obtain ⟨ad5, c5, hv5⟩ := HI5.out.shape
              subst hv5
              go_wp2_with fail
              go_roundw
              case rel =>
                exact ⟨j, 0 + 65536 * q, D, ad5, c5, rfl, by omega, T1.out, T2.out, rfl, by rw [HQ'.out], by rw [HQ'.out]; exact HI5.out, BB5.out⟩
              case measure => simp [intOf] <;> omega
end Go.Proofs.Yticpmcghdoiceaa
