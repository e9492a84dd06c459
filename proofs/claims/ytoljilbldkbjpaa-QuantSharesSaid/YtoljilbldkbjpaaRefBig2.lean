/-
  Walks of copseref01's large numbers, continued: differences, order.
-/
import Derived.Test.YtoljilbldkbjpaaRefBig
import Derived.Test.YtoljilbldkbjpaaDigs2
namespace Go.Proofs.Ytoljilbldkbjpaa
open Go.RowKit

theorem subL_len : ∀ (xs ys : List Int) (c : Int), (subL xs ys c).length = xs.length := by
  intro xs
  induction xs with
  | nil => intro ys c; rfl
  | cons a xs ih => intro ys c; simp only [subL]; split <;> simp [ih]

theorem subL_step {la lb : List Int} {k : Nat} {c x y : Int} (hx : la[k]? = some x) (hy : lb.getD k 0 = y) :
    subL (la.drop k) (lb.drop k) c = if x - y - c < 0 then (x - y - c + 65536) :: subL (la.drop (k + 1)) (lb.drop (k + 1)) 1 else (x - y - c) :: subL (la.drop (k + 1)) (lb.drop (k + 1)) 0 := by
  have hk : k < la.length := (List.getElem?_eq_some_iff.1 hx).1
  have e1 : (lb.drop k).headD 0 = y := by rw [← hy]; simp
  have e2 : (lb.drop k).tail = lb.drop (k + 1) := by simp
  have e3 : la.drop k = x :: la.drop (k + 1) := by rw [drop_getD hk, getD_of hx]
  rw [e3]
  simp only [subL, e1, e2]

set_option maxRecDepth 100000 in
set_option maxHeartbeats 800000 in
theorem minusL_any (va vb : Value) (la lb : List Int) (w : World) (ha : Ints .i64 w va la) (hb : Ints .i64 w vb lb) (da : Dig la) (db : Dig lb) (hla : la.length ≤ 1000000) :
    Calls Try.prog 107 #[va, vb] w fun e w' => ∃ v, e = .returned v ∧ Ints .i64 w' v (trimL (subL la lb 0)) ∧ Fresh w.heap.size v ∧ Below w.heap.size w w' := by
  have ha0 := Lib.hid ha
  have hb0 := Lib.hid hb
  obtain ⟨aa, ca, rfl, _, _, h3, hA⟩ := ha
  obtain ⟨ab, cb, rfl, _, _, h3', _⟩ := hb
  have HA := Lib.hid hA; clear hA
  go_enter Try.func107, Try.ntmps107
  go_wp2
  go_loopw [5, 6, 7] (fun v c i wr => ∃ (k : Nat) (l : List Int) (cc : Int), i = .int .i64 k ∧ c = .int .i64 cc ∧ 0 ≤ cc ∧ cc ≤ 1 ∧ l.length = k ∧ k ≤ la.length ∧ wr.ownsRow w.heap.size 3 1 v l.length (l.map (.int .i64)) ∧ subL la lb 0 = l ++ subL (la.drop k) (lb.drop k) cc ∧ Below w.heap.size w wr) (fun _ _ i _ => la.length - (intOf i).toNat)
  case atStart => exact ⟨0, [], 0, rfl, rfl, by omega, by omega, rfl, by omega, World.ownsRow_nil _ _ _ _, rfl, Below.refl _ _⟩
  case round =>
    obtain ⟨k, l, cc, rfl, rfl, hc0, hc1, hlk, hkl, hown, hl, hbl⟩ := hrel
    have hll : l.length ≤ la.length := by omega
    have HL := Lib.hid hl; clear hl
    have HK := Lib.hid hlk; clear hlk
    by_cases hg : k < la.length
    · obtain ⟨x, hx⟩ := getElem?_ex hg
      obtain ⟨y, hy⟩ : ∃ y, lb.getD k 0 = y := ⟨_, rfl⟩
      have hxb := da x (List.mem_of_getElem? hx)
      have hyb := dig_getD db k
      rw [hy] at hyb
      obtain ⟨b1, o1, rfl, hb1, hc1'⟩ := HA.out k x hx
      have hcell := (hbl.cell (p := ⟨b1, o1 + k, none⟩) hb1).trans hc1'
      clear hc1'
      have hst := subL_step (c := cc) hx hy
      have HS := Lib.hid hst; clear hst
      have hdig : ∀ n, Calls Try.prog 116 #[.slice ab lb.length cb, .int .i64 k] (wr.drewN n) fun e w' => e = .returned (.int .i64 y) ∧ wr.drewN n = w' := fun n => by
        have := digit_any _ lb k _ ((hb0.out.below hbl).drewN n)
        rw [hy] at this; exact this
      have HDG := Lib.hid hdig; clear hdig
      have HX := Lib.hid hx; clear hx
      have HY := Lib.hid hy; clear hy
      go_wp2
      go_quiet ((go_at_call 116; exact quiet_left (HDG.out _)))
      by_cases hneg : x - y - cc < 0
      all_goals
        go_wp2_with (at_builtin; go_must (refine app1 rfl _ _ 115 rfl Try.underlying115 eiInt w.heap.size (by rfl) hown (by rfl) rfl (by simp [Value.oneCell']) (by omega) hbl.size ?_))
        intro v' w' hown' hb' _
        go_wp2
        go_roundw
        case rel => first
          | exact ⟨k + 1, l ++ [x - y - cc + 65536], 1, by go_num, rfl, by omega, by omega, by simp [HK.out], by omega, by simpa using hown', by rw [HL.out, HS.out, if_pos (by omega)]; simp, (below_drewN hbl nq).trans hb'⟩
          | exact ⟨k + 1, l ++ [x - y - cc], 0, by go_num, rfl, by omega, by omega, by simp [HK.out], by omega, by simpa using hown', by rw [HL.out, HS.out, if_neg (by omega)]; simp, (below_drewN hbl nq).trans hb'⟩
        case measure => simp [intOf] <;> omega
    · obtain rfl : k = la.length := by omega
      have he := HL.out
      rw [List.drop_of_length_le (l := la) (Nat.le_refl _)] at he
      simp only [subL, List.append_nil] at he
      have HE := Lib.hid he; clear he
      obtain ⟨g1, g2⟩ := Ints.own hown (by omega)
      go_wp2_with fail
      refine (trim_any _ l _ g2).mono ?_
      rintro e w1 ⟨v', rfl, hv', hfr, rfl⟩
      go_wp2
      go_ret
      exact ⟨v', rfl, by rw [HE.out]; exact hv', hfr _ (Fresh.own hown), hbl⟩

theorem minus_any (va vb : Value) (m n : Nat) (w : World) (ha : Ints .i64 w va (digs m)) (hb : Ints .i64 w vb (digs n)) (hm : (digs m).length ≤ 1000000) (hle : n ≤ m) :
    Calls Try.prog 107 #[va, vb] w fun e w' => BigR w e w' (m - n) :=
  (minusL_any va vb _ _ w ha hb (digs_dig m) (digs_dig n) hm).mono fun e w' ⟨v, h1, h2, h3⟩ => ⟨v, h1, by rw [← subL_digs hle]; exact h2, h3⟩

set_option maxHeartbeats 800000 in
theorem order_any (va vb : Value) (m n : Nat) (w : World) (ha : Ints .i64 w va (digs m)) (hb : Ints .i64 w vb (digs n)) :
    Calls Try.prog 105 #[va, vb] w fun e w' => e = .returned (.int .i64 (ordI m n)) ∧ ∃ d, w' = w.drewN d := by
  obtain ⟨la, hla⟩ : ∃ la, digs m = la := ⟨_, rfl⟩
  obtain ⟨lb, hlb⟩ : ∃ lb, digs n = lb := ⟨_, rfl⟩
  rw [hla] at ha
  rw [hlb] at hb
  have MA : Hid (digs m = la) := hla
  have MB : Hid (digs n = lb) := hlb
  have da : Dig la := by rw [← hla]; exact digs_dig m
  have db : Dig lb := by rw [← hlb]; exact digs_dig n
  have va' : bv la = m := by rw [← hla]; exact bv_digs m
  have vb' : bv lb = n := by rw [← hlb]; exact bv_digs n
  have VA := Lib.hid va'; clear va'
  have VB := Lib.hid vb'; clear vb'
  have DA := Lib.hid da; clear da
  have DB := Lib.hid db; clear db
  have hlen1 : la.length < lb.length → m < n := fun h => digs_len_lt (by rw [hla, hlb]; exact h)
  have hlen2 : lb.length < la.length → n < m := fun h => digs_len_lt (by rw [hla, hlb]; exact h)
  have H1 := Lib.hid hlen1; clear hlen1
  have H2 := Lib.hid hlen2; clear hlen2
  clear hla hlb
  obtain ⟨aa, ca, rfl, _, _, h3, hA⟩ := ha
  obtain ⟨ab, cb, rfl, _, _, h3', hB⟩ := hb
  have HA := Lib.hid hA; clear hA
  have HB := Lib.hid hB; clear hB
  obtain ⟨q, hq⟩ : ∃ q, lb.length = q := ⟨_, rfl⟩
  rw [hq] at h3' ⊢
  have HQ := Lib.hid hq; clear hq
  by_cases hl : la.length = q
  · obtain rfl := hl
    have hb : ((la.length : Int) != la.length) = false := by simp
    go_enter Try.func105, Try.ntmps105
    go_wp2
    go_loopw [5] (fun i wr => ∃ k : Nat, k ≤ la.length ∧ i = .int .i64 ((k : Int) - 1) ∧ la.drop k = lb.drop k ∧ ∃ d, wr = w.drewN d) (fun i _ => (intOf i + 1).toNat)
    case atStart => exact ⟨la.length, Nat.le_refl _, rfl, by rw [List.drop_of_length_le (Nat.le_refl _), List.drop_of_length_le (by rw [HQ.out]; omega)], 0, rfl⟩
    case round =>
      obtain ⟨k, hk, rfl, hdr, d, rfl⟩ := hrel
      have HD := Lib.hid hdr; clear hdr
      by_cases h0 : 0 < k
      · obtain ⟨j, hj⟩ : ∃ j, k = j + 1 := ⟨k - 1, by omega⟩
        subst hj
        have e1 : ((j + 1 : Nat) : Int) - 1 = j := by omega
        rw [e1]
        clear e1
        have hjl : j < la.length := by omega
        obtain ⟨x, hx⟩ := getElem?_ex hjl
        obtain ⟨y, hy⟩ := getElem?_ex (l := lb) (k := j) (by rw [HQ.out]; exact hjl)
        obtain ⟨b1, o1, rfl, hb1, hc1⟩ := HA.out j x hx
        obtain ⟨b2, o2, rfl, hb2, hc2⟩ := HB.out j y hy
        have HX := Lib.hid hx; clear hx
        have HY := Lib.hid hy; clear hy
        go_wp2
        go_quiet (fail)
        by_cases hxy : x < y
        · go_wp2
          go_ret
          refine ⟨ret_int ?_, _, World.drewN_drewN _ _ _⟩
          have := bv_lt_of DA.out DB.out HX.out HY.out HD.out hxy
          rw [VA.out, VB.out] at this
          simp [ordI, this]
        · go_wp2
          go_quiet (fail)
          by_cases hyx : y < x
          · go_wp2
            go_ret
            refine ⟨ret_int ?_, _, World.drewN_drewN _ _ _⟩
            have := bv_lt_of DB.out DA.out HY.out HX.out HD.out.symm hyx
            rw [VA.out, VB.out] at this
            simp [ordI, this, Nat.lt_asymm this]
          · go_wp2
            go_roundw
            case rel =>
              refine ⟨j, by omega, rfl, ?_, _, rfl⟩
              have : x = y := by omega
              rw [drop_getD hjl, drop_getD (l := lb) (k := j) (by rw [HQ.out]; exact hjl), getD_of HX.out, getD_of HY.out, HD.out, this]
            case measure => simp [intOf] <;> omega
      · obtain rfl : k = 0 := by omega
        go_wp2
        go_ret
        refine ⟨ret_int ?_, _, rfl⟩
        have hp := HD.out
        simp only [List.drop_zero] at hp
        have : m = n := by rw [← VA.out, ← VB.out, hp]
        simp [ordI, this]
  · have hb : ((la.length : Int) != q) = true := by simp; omega
    by_cases hlt : la.length < q
    all_goals
      go_enter Try.func105, Try.ntmps105
      go_wp2
      go_ret
      refine ⟨ret_int ?_, 0, rfl⟩
    · have := H1.out (by rw [HQ.out]; exact hlt)
      simp [ordI, this]
    · have := H2.out (by rw [HQ.out]; omega)
      simp [ordI, this, Nat.lt_asymm this]
end Go.Proofs.Ytoljilbldkbjpaa
