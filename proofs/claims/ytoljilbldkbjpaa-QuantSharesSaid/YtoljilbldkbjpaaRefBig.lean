/-
  Walks of copseref01's large numbers.
-/
import Derived.Test.YtoljilbldkbjpaaDigs
import Derived.Test.YtoljilbldkbjpaaSame01
namespace Go.Proofs.Ytoljilbldkbjpaa
open Go.RowKit
def BigR (w : World) (e : Ending) (w' : World) (n : Nat) : Prop := ∃ v, e = .returned v ∧ Ints .i64 w' v (digs n) ∧ Fresh w.heap.size v ∧ Below w.heap.size w w'

theorem digs_len (n : Nat) : ∀ k, n < 65536 ^ k → (digs n).length ≤ k := by
  induction n using Nat.strongRecOn with
  | _ n ih =>
    intro k hk
    rcases Nat.eq_zero_or_pos n with h | h
    · subst h; simp [digs_zero]
    · rw [digs_pos h]
      cases k with
      | zero => simp at hk; omega
      | succ k =>
        have := ih (n / 65536) (by omega) k (by rw [Nat.pow_succ] at hk; omega)
        simp; omega

set_option maxRecDepth 100000 in
set_option maxHeartbeats 400000 in
theorem of_any (n : Nat) (w : World) (hn : n < 18446744073709551616) :
    Calls Try.prog 104 #[.int .u64 n] w fun e w' => BigR w e w' n := by
  have HN := Lib.hid hn; clear hn
  go_enter Try.func104, Try.ntmps104
  go_wp2
  go_loopw [0, 3] (fun m v wr => ∃ (k : Nat) (l : List Int), m = .int .u64 k ∧ k ≤ n ∧ wr.ownsRow w.heap.size 3 1 v l.length (l.map (.int .i64)) ∧ digs n = l ++ digs k ∧ Below w.heap.size w wr) (fun m _ _ => (intOf m).toNat)
  case atStart => exact ⟨n, [], rfl, Nat.le_refl _, World.ownsRow_nil _ _ _ _, rfl, Below.refl _ _⟩
  case round =>
    obtain ⟨k, l, rfl, hk, hown, hl, hb⟩ := hrel
    have HL := Lib.hid hl; clear hl
    have hlen : l.length ≤ 4 := by
      have := digs_len n 4 (by simpa using HN.out)
      rw [HL.out, List.length_append] at this; omega
    have hk64 : k < 18446744073709551616 := Nat.lt_of_le_of_lt hk HN.out
    by_cases h0 : 0 < k
    · go_wp2_with (at_builtin; go_must (refine app1 rfl _ _ 115 rfl Try.underlying115 eiInt w.heap.size (by rfl) hown (by rfl) rfl (by simp [Value.oneCell']) (by omega) hb.size ?_))
      intro v' w' hown' hb' _
      go_wp2
      go_roundw
      case rel => 
        refine ⟨k / 65536, l ++ [((k % 65536 : Nat) : Int)], by go_num, by omega, ?_, ?_, hb.trans hb'⟩
        · simpa using hown'
        · rw [HL.out, digs_pos h0]; simp
      case measure => simp [intOf] <;> omega
    · go_wp2
      go_ret
      obtain rfl : k = 0 := by omega
      obtain ⟨h1, h2⟩ := Ints.own hown (by omega)
      exact ⟨_, rfl, by rw [HL.out, digs_zero, List.append_nil]; exact h2, Fresh.own hown, hb⟩

set_option maxHeartbeats 400000 in
theorem digit_any (v : Value) (l : List Int) (i : Nat) (w : World) (h : Ints .i64 w v l) :
    Calls Try.prog 116 #[v, .int .i64 i] w fun e w' => e = .returned (.int .i64 (l.getD i 0)) ∧ w = w' := by
  obtain ⟨a, c, rfl, _, _, h3, h⟩ := h
  have H := Lib.hid h; clear h
  by_cases hi : i < l.length
  · obtain ⟨x, hx⟩ := getElem?_ex hi
    obtain ⟨b1, o1, rfl, hb1, hc1⟩ := H.out i x hx
    have HX := Lib.hid hx; clear hx
    go_enter Try.func116, Try.ntmps116
    go_wp2
    go_ret
    refine ⟨ret_int ?_, rfl⟩
    simp [HX.out]
  · have : l.length ≤ i := by omega
    go_enter Try.func116, Try.ntmps116
    go_wp2
    go_ret
    refine ⟨ret_int ?_, rfl⟩
    simp [List.getElem?_eq_none this]

set_option maxHeartbeats 400000 in
theorem trim_any (v : Value) (l : List Int) (w : World) (h : Ints .i64 w v l) :
    Calls Try.prog 117 #[v] w fun e w' => ∃ v', e = .returned v' ∧ Ints .i64 w v' (trimL l) ∧ (∀ B, Fresh B v → Fresh B v') ∧ w = w' := by
  obtain ⟨a, c, rfl, h1, h2, h3, h⟩ := h
  have H := Lib.hid h; clear h
  go_enter Try.func117, Try.ntmps117
  go_wp2
  go_loop [3] (fun i => ∃ k : Nat, k ≤ l.length ∧ i = .int .i64 k ∧ trimL l = trimL (l.take k)) (fun i => (intOf i).toNat)
  case atStart => exact ⟨l.length, Nat.le_refl _, rfl, by simp⟩
  case round =>
    obtain ⟨k, hk, rfl, ht⟩ := hrel
    have HT := Lib.hid ht; clear ht
    by_cases h0 : 0 < k
    · obtain ⟨j, hj⟩ : ∃ j, k = j + 1 := ⟨k - 1, by omega⟩
      subst hj
      have hjl : j < l.length := by omega
      obtain ⟨x, hx⟩ := getElem?_ex hjl
      obtain ⟨b1, o1, rfl, hb1, hc1⟩ := H.out j x hx
      have HX := Lib.hid hx; clear hx
      have e1 : ((j + 1 : Nat) : Int) - 1 = j := by omega
      have E1 := Lib.hid e1; clear e1
      by_cases hx0 : x = 0
      · have hxb : (x == 0) = true := by simp [hx0]
        have HX0 := Lib.hid hx0; clear hx0
        go_wp2
        go_round
        case rel => exact ⟨j, by omega, rfl, by rw [HT.out, take_snoc' HX.out, HX0.out, trimL_snoc_zero]⟩
        case measure => simp [intOf] <;> omega
      · have hxb : (x == 0) = false := by simp [hx0]
        go_wp2
        go_ret
        refine ⟨_, rfl, ?_, fun B hB => hB.cut (by omega), rfl⟩
        have e : trimL l = l.take (j + 1) := by rw [HT.out, take_snoc' HX.out, trimL_snoc_pos _ hx0]
        rw [e]
        exact (Ints.take (l := l) (k := j + 1) ⟨_, _, rfl, h1, h2, h3, H.out⟩ (by omega)).2
    · obtain rfl : k = 0 := by omega
      go_wp2
      go_ret
      refine ⟨_, rfl, ?_, fun B hB => hB.cut (by omega), rfl⟩
      have e : trimL l = l.take 0 := by rw [HT.out]; simp [trimL]
      rw [e]
      exact (Ints.take (l := l) (k := 0) ⟨_, _, rfl, h1, h2, h3, H.out⟩ (by omega)).2

theorem drop_getD {l : List Int} {k : Nat} (h : k < l.length) : l.drop k = l.getD k 0 :: l.drop (k + 1) := by
  rw [List.drop_eq_getElem_cons h]; simp [List.getElem?_eq_getElem h]

theorem addL_step {la lb : List Int} {k : Nat} {c : Int} (hc : 0 ≤ c ∧ c ≤ 1) (h : k < la.length ∨ k < lb.length ∨ 0 < c) :
    addL (la.drop k) (lb.drop k) c = (la.getD k 0 + lb.getD k 0 + c) % 65536 :: addL (la.drop (k + 1)) (lb.drop (k + 1)) ((la.getD k 0 + lb.getD k 0 + c) / 65536) := by
  by_cases h1 : k < la.length
  · rw [drop_getD h1]
    by_cases h2 : k < lb.length
    · rw [drop_getD h2]; simp only [addL]
    · rw [List.drop_of_length_le (l := lb) (i := k) (by omega), List.drop_of_length_le (l := lb) (i := k + 1) (by omega)]
      have : lb.getD k 0 = 0 := by simp [List.getElem?_eq_none (Nat.le_of_not_lt h2)]
      rw [this]; simp only [addL, Int.add_zero]
  · have e1 : la.getD k 0 = 0 := by simp [List.getElem?_eq_none (Nat.le_of_not_lt h1)]
    rw [List.drop_of_length_le (l := la) (i := k) (by omega), List.drop_of_length_le (l := la) (i := k + 1) (by omega), e1]
    by_cases h2 : k < lb.length
    · rw [drop_getD h2]; simp only [addL, Int.zero_add]
    · have e2 : lb.getD k 0 = 0 := by simp [List.getElem?_eq_none (Nat.le_of_not_lt h2)]
      rw [List.drop_of_length_le (l := lb) (i := k) (by omega), List.drop_of_length_le (l := lb) (i := k + 1) (by omega), e2]
      have hc1 : c = 1 := by omega
      subst hc1; simp [addL]

theorem addL_end {la lb : List Int} {k : Nat} {c : Int} (h1 : ¬ k < la.length) (h2 : ¬ k < lb.length) (h3 : ¬ 0 < c) : addL (la.drop k) (lb.drop k) c = [] := by
  rw [List.drop_of_length_le (l := la) (i := k) (by omega), List.drop_of_length_le (l := lb) (i := k) (by omega)]
  simp [addL, h3]

theorem dig_getD {l : List Int} (h : Dig l) (k : Nat) : 0 ≤ l.getD k 0 ∧ l.getD k 0 ≤ 65535 := by
  by_cases hk : k < l.length
  · have := h _ (List.getElem_mem hk)
    simpa [List.getElem?_eq_getElem hk] using this
  · simp [List.getElem?_eq_none (Nat.le_of_not_lt hk)]

theorem addL_len (xs ys : List Int) (c : Int) : (addL xs ys c).length ≤ xs.length + ys.length + 1 := by
  fun_induction addL xs ys c <;> simp_all <;> omega

set_option maxRecDepth 100000 in
set_option maxHeartbeats 800000 in
theorem plusL_any (va vb : Value) (la lb : List Int) (w : World) (ha : Ints .i64 w va la) (hb : Ints .i64 w vb lb) (da : Dig la) (db : Dig lb) (hla : la.length + lb.length ≤ 1000000) :
    Calls Try.prog 106 #[va, vb] w fun e w' => ∃ v, e = .returned v ∧ Ints .i64 w' v (trimL (addL la lb 0)) ∧ Fresh w.heap.size v ∧ Below w.heap.size w w' := by
  have ha0 := Lib.hid ha
  have hb0 := Lib.hid hb
  obtain ⟨aa, ca, rfl, _, _, h3, _⟩ := ha
  obtain ⟨ab, cb, rfl, _, _, h3', _⟩ := hb
  have hlen := addL_len la lb 0
  go_enter Try.func106, Try.ntmps106
  go_wp2
  go_loopw [5, 6, 7] (fun v c i wr => ∃ (k : Nat) (l : List Int) (cc : Int), i = .int .i64 k ∧ c = .int .i64 cc ∧ 0 ≤ cc ∧ cc ≤ 1 ∧ l.length = k ∧ wr.ownsRow w.heap.size 3 1 v l.length (l.map (.int .i64)) ∧ addL la lb 0 = l ++ addL (la.drop k) (lb.drop k) cc ∧ Below w.heap.size w wr) (fun _ _ i _ => (addL la lb 0).length - (intOf i).toNat)
  case atStart => exact ⟨0, [], 0, rfl, rfl, by omega, by omega, rfl, World.ownsRow_nil _ _ _ _, rfl, Below.refl _ _⟩
  case round =>
    obtain ⟨k, l, cc, rfl, rfl, hc0, hc1, hlk, hown, hl, hbl⟩ := hrel
    have hkk : k ≤ la.length + lb.length + 1 := by
      have := congrArg List.length hl; simp at this; omega
    have hll : l.length ≤ la.length + lb.length + 1 := by omega
    have HL := Lib.hid hl; clear hl
    have HK := Lib.hid hlk; clear hlk
    obtain ⟨x, hx⟩ : ∃ x, la.getD k 0 = x := ⟨_, rfl⟩
    obtain ⟨y, hy⟩ : ∃ y, lb.getD k 0 = y := ⟨_, rfl⟩
    have hxb := dig_getD da k
    have hyb := dig_getD db k
    rw [hx] at hxb; rw [hy] at hyb
    have HX := Lib.hid hx; clear hx
    have HY := Lib.hid hy; clear hy
    by_cases hg : k < la.length ∨ k < lb.length ∨ 0 < cc
    · have hst := addL_step ⟨hc0, hc1⟩ hg
      rw [HX.out, HY.out] at hst
      have hkt : k < (addL la lb 0).length := by rw [HL.out, List.length_append, hst, HK.out]; simp
      have HS := Lib.hid hst; clear hst
      have hparts : k < la.length ∨ (la.length ≤ k ∧ k < lb.length) ∨ (la.length ≤ k ∧ lb.length ≤ k ∧ 0 < cc) := by omega
      clear hg
      rcases hparts with h1 | ⟨h1, h2⟩ | ⟨h1, h2, h4⟩
      all_goals
        go_wp2_with fail
        refine (digit_any _ la k _ (ha0.out.below hbl)).mono ?_
        rw [HX.out]; rintro e w1 ⟨rfl, rfl⟩
        go_wp2_with fail
        refine (digit_any _ lb k _ (hb0.out.below hbl)).mono ?_
        rw [HY.out]; rintro e w1 ⟨rfl, rfl⟩
        go_wp2_with (at_builtin; go_must (refine app1 rfl _ _ 115 rfl Try.underlying115 eiInt w.heap.size (by rfl) hown (by rfl) rfl (by simp [Value.oneCell']) (by omega) hbl.size ?_))
        intro v' w' hown' hb' _
        go_wp2
        go_roundw
        case rel =>
          refine ⟨k + 1, l ++ [(x + y + cc) % 65536], (x + y + cc) / 65536, by go_num, rfl, by omega, by omega, by simp [HK.out], ?_, ?_, hbl.trans hb'⟩
          · simpa using hown'
          · rw [HL.out, HS.out]; simp
        case measure => simp [intOf] <;> omega
    · have hend := addL_end (la := la) (lb := lb) (k := k) (c := cc) (by omega) (by omega) (by omega)
      have he := HL.out
      rw [hend, List.append_nil] at he
      have HE := Lib.hid he; clear he hend
      obtain ⟨h1, h2, h4⟩ : la.length ≤ k ∧ lb.length ≤ k ∧ cc ≤ 0 := by omega
      clear hg
      obtain ⟨g1, g2⟩ := Ints.own hown (by have := HK.out; omega)
      go_wp2_with fail
      refine (trim_any _ l _ g2).mono ?_
      rintro e w1 ⟨v', rfl, hv', hfr, rfl⟩
      go_wp2
      go_ret
      exact ⟨v', rfl, by rw [HE.out]; exact hv', hfr _ (Fresh.own hown), hbl⟩

theorem plus_any (va vb : Value) (m n : Nat) (w : World) (ha : Ints .i64 w va (digs m)) (hb : Ints .i64 w vb (digs n)) (hm : (digs m).length + (digs n).length ≤ 1000000) :
    Calls Try.prog 106 #[va, vb] w fun e w' => BigR w e w' (m + n) :=
  (plusL_any va vb _ _ w ha hb (digs_dig m) (digs_dig n) hm).mono fun e w' ⟨v, h1, h2, h3⟩ => ⟨v, h1, by rw [← addL_digs]; exact h2, h3⟩
end Go.Proofs.Ytoljilbldkbjpaa
