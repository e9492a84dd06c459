/-
  Walk of wide.Parse: the loops.
-/
import Derived.Test.YticpmcghdoiceaaWideH
namespace Go.Proofs.Yticpmcghdoiceaa
open Go.RowKit

theorem Ints.cell0 {kd : IntKind} {w : World} {b n c i : Nat} {l : List Int} {x : Int} (h : Ints kd w (.slice (some ⟨b, 0, none⟩) n c) l) (hi : l[i]? = some x) : w.cell? ⟨b, i, none⟩ = some (.int kd x) := by
  obtain ⟨a, c', hv, _, _, _, hc⟩ := h
  obtain ⟨b', o, e, _, hr⟩ := hc i x hi
  simp only [Value.slice.injEq] at hv
  obtain ⟨rfl, _⟩ := hv
  simp only [Option.some.injEq, Addr.mk.injEq] at e
  obtain ⟨rfl, rfl, _⟩ := e
  simpa using hr

theorem parse_mul {m hi lo high over : Nat} {ae : Int} {nv : Nat} (hm : m = hi * 18446744073709551616 + lo) (_b1 : (hi : Int) ≤ 18446744073709551615) (_b2 : (lo : Int) ≤ 18446744073709551615) (h1 : hi * 10 / 18446744073709551616 = high) (h2 : hi * 10 % 18446744073709551616 = over)
    (h3 : addV (over * 18446744073709551616) (lo * 10) = nv) (h4 : addE (over * 18446744073709551616) (lo * 10) = ae) :
    ((0 < high ∨ ae ≠ 0) → T128 ≤ m * 10) ∧ (¬ 0 < high → ae = 0 → nv = m * 10 ∧ m * 10 < T128) := by
  unfold addV T128 at h3
  unfold addE T128 at h4
  unfold T128
  by_cases c : over * 18446744073709551616 + lo * 10 < 340282366920938463463374607431768211456
  · rw [if_pos c] at h3 h4
    constructor
    · rintro (h | h)
      · omega
      · exact absurd h4.symm h
    · intro h _
      omega
  · rw [if_neg c] at h3 h4
    constructor
    · intro _; omega
    · intro _ h; omega

theorem decN_over {m : Nat} {x : Int} {k : Nat} {l : List Int} (hx : l[k]? = some x) (h : T128 ≤ m * 10 + (x - 48).toNat) : decN m (l.drop k) = none := by
  obtain ⟨h1, h2⟩ := List.getElem?_eq_some_iff.1 hx
  rw [List.drop_eq_getElem_cons h1, h2, decN, if_neg (by omega)]

theorem decN_step {m : Nat} {x : Int} {k : Nat} {l : List Int} (hx : l[k]? = some x) (h : m * 10 + (x - 48).toNat < T128) : decN m (l.drop k) = decN (m * 10 + (x - 48).toNat) (l.drop (k + 1)) := by
  obtain ⟨h1, h2⟩ := List.getElem?_eq_some_iff.1 hx
  rw [List.drop_eq_getElem_cons h1, h2, decN, if_pos h]

theorem fresh_at {b o n c : Nat} : Fresh b (.slice (some ⟨b, o, none⟩) n c) := fun a n c e _ => by
  injection e with e1
  injection e1 with e1
  subst e1
  exact Nat.le_refl _

theorem loop_len (s : ByteArray) (k : Nat) : ∀ i r, s.size - i = k → (ByteArray.toList.loop s i r).length = r.length + k := by
  induction k with
  | zero => intro i r h; unfold ByteArray.toList.loop; rw [if_neg (by omega)]; simp
  | succ k ih => intro i r h; unfold ByteArray.toList.loop; rw [if_pos (by omega), ih _ _ (by omega)]; simp; omega

theorem toList_len (s : ByteArray) : s.toList.length = s.size := by
  unfold ByteArray.toList
  rw [loop_len s s.size 0 [] rfl]; simp

theorem conv_fun {s : ByteArray} {l : List Int} (hs : s.data.toList.map (fun b => (b.toNat : Int)) = l) (hl : l.length ≤ 1048576) :
    ∃ (cf : World → Nat) (wf : World → World), (∀ w, (convert 9 90 (.string s)).run Try.prog w = .ok (.slice (some ⟨w.heap.size, 0, none⟩) l.length (cf w)) (wf w)) ∧
      (∀ w, Ints .u8 (wf w) (.slice (some ⟨w.heap.size, 0, none⟩) l.length (cf w)) l) ∧ ∀ w, Below w.heap.size w (wf w) := by
  refine ⟨fun w => Classical.choose (convStr hs hl w), fun w => Classical.choose (Classical.choose_spec (convStr hs hl w)), fun w => ?_, fun w => ?_, fun w => ?_⟩
  · exact (Classical.choose_spec (Classical.choose_spec (convStr hs hl w))).1
  · exact (Classical.choose_spec (Classical.choose_spec (convStr hs hl w))).2.1
  · exact (Classical.choose_spec (Classical.choose_spec (convStr hs hl w))).2.2

theorem parse_bad {l : List Int} {k : Nat} {x : Int} (hx : l[k]? = some x) (h : x < 48 ∨ 57 < x) : parseL l = (0, 20) := by
  unfold parseL
  split
  · rfl
  · rw [if_neg]
    rw [List.all_eq_true]
    intro ha
    have := ha x (List.mem_of_getElem? hx)
    simp at this
    omega

theorem parse_dig {l : List Int} (hne : l ≠ []) (hz : ¬ (1 < l.length ∧ l[0]? = some 48)) (h : ∀ x ∈ l, 48 ≤ x ∧ x ≤ 57) : parseL l = match decN 0 l with | some n => (n, 0) | none => (0, 10) := by
  unfold parseL
  rw [if_neg (by rintro (h | h); exact hne h; exact hz h)]
  have ha : (l.all fun c => decide (48 ≤ c ∧ c ≤ 57)) = true := by
    rw [List.all_eq_true]
    intro x hx
    have := h x hx
    simp
    exact this
  rw [if_pos ha]
  rfl

theorem parse_none {l : List Int} (hne : l ≠ []) (hz : ¬ (1 < l.length ∧ l[0]? = some 48)) (h : ∀ x ∈ l, 48 ≤ x ∧ x ≤ 57) (hd : decN 0 l = none) : parseL l = (0, 10) := by
  rw [parse_dig hne hz h, hd]

theorem parse_some {l : List Int} {n : Nat} (hne : l ≠ []) (hz : ¬ (1 < l.length ∧ l[0]? = some 48)) (h : ∀ x ∈ l, 48 ≤ x ∧ x ≤ 57) (hd : decN 0 l = some n) : parseL l = (n, 0) := by
  rw [parse_dig hne hz h, hd]

theorem lead_eq {s : ByteArray} {l : List Int} (hs : s.data.toList.map (fun b => (b.toNat : Int)) = l) (h : 0 < s.size) : l[0]? = some ((s[0].toNat : Nat) : Int) := by
  rw [← hs, List.getElem?_map, Array.getElem?_toList]
  have : s.data[0]? = some s.data[0] := Array.getElem?_eq_getElem h
  rw [this]; rfl

theorem str_size {s : ByteArray} {l : List Int} (hs : s.data.toList.map (fun b => (b.toNat : Int)) = l) : s.size = l.length := by
  rw [← hs, List.length_map, Array.length_toList]; rfl

theorem all_take {l : List Int} (h : ∀ x ∈ l.take l.length, 48 ≤ x ∧ x ≤ 57) : ∀ x ∈ l, 48 ≤ x ∧ x ≤ 57 := by
  rwa [List.take_length] at h

theorem take_snoc_all {l : List Int} {k : Nat} {x : Int} (h : ∀ y ∈ l.take k, 48 ≤ y ∧ y ≤ 57) (hx : l[k]? = some x) (h2 : 48 ≤ x ∧ x ≤ 57) : ∀ y ∈ l.take (k + 1), 48 ≤ y ∧ y ≤ 57 := by
  rw [List.take_add_one, hx]
  intro y hy
  rcases List.mem_append.1 hy with hy | hy
  · exact h y hy
  · simp at hy; subst hy; exact h2

set_option maxRecDepth 100000 in
set_option maxHeartbeats 2000000 in
theorem wParse_loop (s : ByteArray) (l : List Int) (w : World) (hs : s.data.toList.map (fun b => (b.toNat : Int)) = l) (hl : l.length ≤ 1048576) (hne : l ≠ []) (hz : ¬ (1 < l.length ∧ l[0]? = some 48)) (hb8 : ∀ x ∈ l, 0 ≤ x ∧ x ≤ 255) :
    Calls Try.prog 24 #[.string s] w fun e w' => e = .returned (.tuple #[WV (parseL l).1, .int .i64 (parseL l).2]) ∧ Below w.heap.size w w' := by
  obtain ⟨cf, wf, r1, r2, r3⟩ := conv_fun hs hl
  have H1 := Lib.hid hs
  have HNE := Lib.hid hne
  have HZ := Lib.hid hz
  have HR2 := Lib.hid r2
  have HR3 := Lib.hid r3
  have H8 := Lib.hid hb8
  have HR1 := Lib.hid r1
  obtain ⟨m, hm⟩ : ∃ m, parseL l = m := ⟨_, rfl⟩
  rw [hm]
  have HM := Lib.hid hm
  clear hm hz hne hs r2 r3 hb8 r1
  go_enter Try.func24, Try.ntmps24
  go_upto_region 1 with fail
  go_cut [25] (fun c wx => c = .bool false ∧ wx = w.alloc (.cells #[.int .u64 0, .int .u64 0] 24))
  case first =>
    go_wp2_with fail
    · exfalso
      have h := str_size H1.out
      have h2 : s.toList = [] := by assumption
      have h3 : l.length = 0 := by
        rw [← h]
        have : s.toList.length = s.size := toList_len s
        rw [← this, h2]; rfl
      exact HNE.out (List.eq_nil_of_length_eq_zero h3)
    · go_meet
      case rel =>
        refine ⟨?_, rfl⟩
        have h0 : 0 < s.size := by assumption
        have e := lead_eq H1.out h0
        have e2 := str_size H1.out
        have : ¬ ((s[0].toNat : Nat) : Int) = 48 := fun h => HZ.out ⟨by omega, by rw [e, h]⟩
        simp_all
    · go_meet
      case rel => exact ⟨by simp_all, rfl⟩
  case rest =>
    obtain ⟨rfl, rfl⟩ := hcut
    have r1 := HR1.out
    go_wp2_with fail
    have I1 := HR2.out (w.alloc (.cells #[.int .u64 0, .int .u64 0] 24))
    have B1 := HR3.out (w.alloc (.cells #[.int .u64 0, .int .u64 0] 24))
    have c0_0 := B1.cell (p := ⟨w.heap.size, 0, none⟩) (by first | omega | (simp <;> omega)); have f0_0 := B1.frozen (p := ⟨w.heap.size, 0, none⟩) (by first | omega | (simp <;> omega)); have c0_1 := B1.cell (p := ⟨w.heap.size, 1, none⟩) (by first | omega | (simp <;> omega)); have f0_1 := B1.frozen (p := ⟨w.heap.size, 1, none⟩) (by first | omega | (simp <;> omega))
    have hz1 : w.heap.size < (wf (w.alloc (.cells #[.int .u64 0, .int .u64 0] 24))).heap.size := by have := B1.size; simp at this; omega
    obtain ⟨w1, hw1⟩ : ∃ w1, wf (w.alloc (.cells #[.int .u64 0, .int .u64 0] 24)) = w1 := ⟨_, rfl⟩
    obtain ⟨q1, hq1⟩ : ∃ q1, cf (w.alloc (.cells #[.int .u64 0, .int .u64 0] 24)) = q1 := ⟨_, rfl⟩
    have ez : (w.alloc (.cells #[.int .u64 0, .int .u64 0] 24)).heap.size = w.heap.size + 1 := by simp
    rw [ez] at I1
    clear ez
    rw [hw1] at I1 B1 c0_0 c0_1 f0_0 f0_1 hz1
    rw [hq1] at I1
    rw [hw1, hq1]
    have t0 : w1.cell? ⟨w.heap.size, 0, none⟩ = some (.int .u64 0) := by go_simp
    have t1 : w1.cell? ⟨w.heap.size, 1, none⟩ = some (.int .u64 0) := by go_simp
    have t2 : w1.frozen? ⟨w.heap.size, 0, none⟩ = false := by go_simp
    have t3 : w1.frozen? ⟨w.heap.size, 1, none⟩ = false := by go_simp
    clear c0_0 c0_1 f0_0 f0_1
    have BB1 := Lib.hid (show Below w.heap.size w w1 from below_tr (by (repeat (first | with_reducible exact Below.refl _ _ | ((with_reducible refine Below.setCell ?_ ?_ _); rotate_left; (focus (first | omega | (simp; done) | (simp; omega)))) | ((with_reducible refine Below.alloc ?_ ?_ _); rotate_left; (focus (first | omega | (simp; done) | (simp; omega)))) | (with_reducible refine Below.drew ?_) | (with_reducible refine below_drewN ?_ _)))) (B1.mono (by simp)))
    have II1 := Lib.hid I1
    clear I1 B1 hw1 hq1 r1
    go_loopw [5, 30] (fun _ i wr => ∃ k : Nat, i = .int .i64 k ∧ k ≤ l.length ∧ (∀ y ∈ l.take k, 48 ≤ y ∧ y ≤ 57) ∧ w1 = wr) (fun _ i _ => l.length - (intOf i).toNat)
    case atStart => exact ⟨0, rfl, by omega, by simp, rfl⟩
    case round =>
      obtain ⟨k, rfl, hk, hd, rfl⟩ := hrel
      have HD := Lib.hid hd
      clear hd
      by_cases hk2 : k < l.length
      · obtain ⟨x, hx⟩ := getElem?_ex (l := l) (k := k) hk2
        have cx := II1.out.cell0 hx
        have HX := Lib.hid hx
        have hk3 : (k : Int) < l.length := by omega
        have hxb := H8.out x (List.mem_of_getElem? hx)
        clear hx
        by_cases h1 : x < 48
        · clear hxb
          go_wp2_with fail
          refine bodyPost_ret (v := .tuple #[.agg #[.int .u64 0, .int .u64 0], .int .i64 20]) (by simp [results, Try.results24, go_sem, t0, t1]) rfl ⟨?_, ?_⟩
          · rw [← HM.out, parse_bad HX.out (.inl h1)]; rfl
          · (repeat (first | with_reducible exact Below.refl _ _ | ((with_reducible refine Below.setCell ?_ ?_ _); rotate_left; (focus (first | omega | (simp; done) | (simp; omega)))) | ((with_reducible refine Below.alloc ?_ ?_ _); rotate_left; (focus (first | omega | (simp; done) | (simp; omega)))) | (with_reducible refine Below.drew ?_) | (with_reducible refine below_drewN ?_ _) | ((with_reducible refine Below.trans ?_ (Below.mono BB1.out ?_)); rotate_left; (focus (first | omega | (simp; done) | (simp; omega))))))
        · by_cases h2 : 57 < x
          · clear hxb
            go_wp2_with fail
            refine bodyPost_ret (v := .tuple #[.agg #[.int .u64 0, .int .u64 0], .int .i64 20]) (by simp [results, Try.results24, go_sem, t0, t1]) rfl ⟨?_, ?_⟩
            · rw [← HM.out, parse_bad HX.out (.inr h2)]; rfl
            · (repeat (first | with_reducible exact Below.refl _ _ | ((with_reducible refine Below.setCell ?_ ?_ _); rotate_left; (focus (first | omega | (simp; done) | (simp; omega)))) | ((with_reducible refine Below.alloc ?_ ?_ _); rotate_left; (focus (first | omega | (simp; done) | (simp; omega)))) | (with_reducible refine Below.drew ?_) | (with_reducible refine below_drewN ?_ _) | ((with_reducible refine Below.trans ?_ (Below.mono BB1.out ?_)); rotate_left; (focus (first | omega | (simp; done) | (simp; omega))))))
          · clear hxb
            go_wp2_with fail
            go_roundw
            case rel => exact ⟨k + 1, by go_num, by omega, take_snoc_all HD.out HX.out (by omega), trivial⟩
            case measure => simp [intOf] <;> omega
      · obtain rfl : k = l.length := by omega
        have hdig := Lib.hid (all_take HD.out)
        clear HD hk hk2
        have r1 := HR1.out
        go_wp2_with fail
        have I2 := HR2.out (w1.alloc (.cells #[.int .u64 0, .int .u64 0] 24))
        have B2 := HR3.out (w1.alloc (.cells #[.int .u64 0, .int .u64 0] 24))
        have d0 := B2.cell (p := ⟨w.heap.size, 0, none⟩) (by simp; omega)
        have d1 := B2.cell (p := ⟨w.heap.size, 1, none⟩) (by simp; omega)
        have g0 := B2.frozen (p := ⟨w.heap.size, 0, none⟩) (by simp; omega)
        have g1 := B2.frozen (p := ⟨w.heap.size, 1, none⟩) (by simp; omega)
        have d2 := B2.cell (p := ⟨w1.heap.size, 0, none⟩) (by simp)
        have d3 := B2.cell (p := ⟨w1.heap.size, 1, none⟩) (by simp)
        have g2 := B2.frozen (p := ⟨w1.heap.size, 0, none⟩) (by simp)
        have g3 := B2.frozen (p := ⟨w1.heap.size, 1, none⟩) (by simp)
        have hne1 : w.heap.size ≠ w1.heap.size := by omega
        have hne2 : w1.heap.size ≠ w.heap.size := by omega
        have hz2 : w1.heap.size < (wf (w1.alloc (.cells #[.int .u64 0, .int .u64 0] 24))).heap.size := by have := B2.size; simp at this; omega
        obtain ⟨w2, hw2⟩ : ∃ w2, wf (w1.alloc (.cells #[.int .u64 0, .int .u64 0] 24)) = w2 := ⟨_, rfl⟩
        obtain ⟨q2, hq2⟩ : ∃ q2, cf (w1.alloc (.cells #[.int .u64 0, .int .u64 0] 24)) = q2 := ⟨_, rfl⟩
        have ez : (w1.alloc (.cells #[.int .u64 0, .int .u64 0] 24)).heap.size = w1.heap.size + 1 := by simp
        rw [ez] at I2
        clear ez
        rw [hw2] at I2 B2 d0 d1 d2 d3 g0 g1 g2 g3 hz2
        rw [hq2] at I2
        rw [hw2, hq2]
        have BB2 := Lib.hid (show Below w.heap.size w w2 from below_tr (by (repeat (first | with_reducible exact Below.refl _ _ | ((with_reducible refine Below.setCell ?_ ?_ _); rotate_left; (focus (first | omega | (simp; done) | (simp; omega)))) | ((with_reducible refine Below.alloc ?_ ?_ _); rotate_left; (focus (first | omega | (simp; done) | (simp; omega)))) | (with_reducible refine Below.drew ?_) | (with_reducible refine below_drewN ?_ _) | ((with_reducible refine Below.trans ?_ (Below.mono BB1.out ?_)); rotate_left; (focus (first | omega | (simp; done) | (simp; omega))))))) (B2.mono (by simp; omega)))
        have II2 := Lib.hid I2
        clear I2 B2 hw2 hq2 r1
        go_loopw [8, 9, 10, 11, 12, 13, 45] (fun _ _ _ _ _ _ i wx => ∃ (k m hi lo : Nat), i = .int .i64 k ∧ k ≤ l.length ∧ m = hi * 18446744073709551616 + lo ∧ (hi : Int) ≤ 18446744073709551615 ∧ (lo : Int) ≤ 18446744073709551615 ∧ decN 0 l = decN m (l.drop k) ∧
          Ints .u8 wx (.slice (some ⟨w1.heap.size + 1, 0, none⟩) l.length q2) l ∧
          wx.cell? ⟨w.heap.size, 0, none⟩ = some (.int .u64 0) ∧ wx.cell? ⟨w.heap.size, 1, none⟩ = some (.int .u64 0) ∧ wx.frozen? ⟨w.heap.size, 0, none⟩ = false ∧ wx.frozen? ⟨w.heap.size, 1, none⟩ = false ∧
          wx.cell? ⟨w1.heap.size, 0, none⟩ = some (.int .u64 hi) ∧ wx.cell? ⟨w1.heap.size, 1, none⟩ = some (.int .u64 lo) ∧ wx.frozen? ⟨w1.heap.size, 0, none⟩ = false ∧ wx.frozen? ⟨w1.heap.size, 1, none⟩ = false ∧
          w1.heap.size < wx.heap.size ∧ Below w.heap.size w wx) (fun _ _ _ _ _ _ i _ => l.length - (intOf i).toNat)
        case atStart => exact ⟨0, 0, 0, 0, rfl, by omega, by omega, by omega, by omega, by simp, II2.out, by go_simp, by go_simp, by go_simp, by go_simp, by go_simp, by go_simp, by go_simp, by go_simp, hz2, BB2.out⟩
        case round =>
          obtain ⟨k, m2, hi, lo, rfl, hk, hm, b1, b2, hdec, hI, x0, x1, y0, y1, a0, a1, z0, z1, hsz, hB⟩ := hrel
          have HDEC := Lib.hid hdec; have HI := Lib.hid hI; have HB := Lib.hid hB; have HMM := Lib.hid hm
          clear hdec hI hB hm BB2 II2
          clear d0 d1 d2 d3 g0 g1 g2 g3 hz2
          by_cases hk2 : k < l.length
          · obtain ⟨x, hx⟩ := getElem?_ex (l := l) (k := k) hk2
            have cx := HI.out.cell0 hx
            have hxd := hdig.out x (List.mem_of_getElem? hx)
            have HX := Lib.hid hx
            have hk3 : (k : Int) < l.length := by omega
            have hmt : m2 < T128 := by have := HMM.out; unfold T128; omega
            clear hx
            obtain ⟨lh, ll, q1', q2', e0, e1⟩ := wv_ex (n := lo * 10) (by unfold T128; omega)
            have hmul := fun W => wMul_any lo 10 W b2 (by omega)
            rw [e1] at hmul
            have hm64 := fun W => Try.bits_Mul64 hi 10 (by omega) (by omega) W
            obtain ⟨high, hh⟩ : ∃ h, hi * 10 / 18446744073709551616 = h := ⟨_, rfl⟩
            obtain ⟨over, ho⟩ : ∃ h, hi * 10 % 18446744073709551616 = h := ⟨_, rfl⟩
            rw [hh, ho] at hm64
            have hov : (over : Int) ≤ 18446744073709551615 := by omega
            have hadd := fun W => wAdd_any (over * 18446744073709551616) (lo * 10) W (by unfold T128; omega) (by unfold T128; omega)
            rw [wv_of over 0 (by omega) (by omega), e1] at hadd
            have hav : addV (over * 18446744073709551616) (lo * 10) < T128 := by unfold addV; split; assumption; unfold T128; omega
            obtain ⟨nh, nl, n1, n2, n3, n4⟩ := wv_ex hav
            rw [n4] at hadd
            obtain ⟨ae, hae⟩ : ∃ ae, addE (over * 18446744073709551616) (lo * 10) = ae := ⟨_, rfl⟩
            rw [hae] at hadd
            have HMUL := Lib.hid hmul; have HM64 := Lib.hid hm64; have HADD := Lib.hid hadd
            have HF := Lib.hid (show (lo * 10 = lh * 18446744073709551616 + ll) ∧ hi * 10 / 18446744073709551616 = high ∧ hi * 10 % 18446744073709551616 = over ∧ addV (over * 18446744073709551616) (lo * 10) = nh * 18446744073709551616 + nl ∧ addE (over * 18446744073709551616) (lo * 10) = ae ∧ m2 < T128 from ⟨e0, hh, ho, n3, hae, hmt⟩)
            clear hmul hm64 hadd e0 e1 hh ho n3 n4 hae hav hmt
            have HXD := Lib.hid hxd
            clear hxd
            go_wp2_with fail
            refine (HMUL.out _).mono ?_
            rintro e v1 ⟨rfl, hb1⟩
            have BV1 := Lib.hid (HB.out.trans (hb1.mono (by omega)))
            have IV1 := Lib.hid (HI.out.below hb1)
            have sz1 := hb1.size
            have x0' := (hb1.cell (p := ⟨w.heap.size, 0, none⟩) (by simp; omega)).trans x0
            have x1' := (hb1.cell (p := ⟨w.heap.size, 1, none⟩) (by simp; omega)).trans x1
            have y0' := (hb1.frozen (p := ⟨w.heap.size, 0, none⟩) (by simp; omega)).trans y0
            have y1' := (hb1.frozen (p := ⟨w.heap.size, 1, none⟩) (by simp; omega)).trans y1
            have a0' := (hb1.cell (p := ⟨w1.heap.size, 0, none⟩) (by simp; omega)).trans a0
            have a1' := (hb1.cell (p := ⟨w1.heap.size, 1, none⟩) (by simp; omega)).trans a1
            have z0' := (hb1.frozen (p := ⟨w1.heap.size, 0, none⟩) (by simp; omega)).trans z0
            have z1' := (hb1.frozen (p := ⟨w1.heap.size, 1, none⟩) (by simp; omega)).trans z1
            have nz1 : w1.heap.size < v1.heap.size := by omega
            have nz2 : w.heap.size < v1.heap.size := by omega
            have nz3 : w1.heap.size ≠ v1.heap.size := by omega
            have nz4 : w.heap.size ≠ v1.heap.size := by omega
            have nz5 : v1.heap.size ≠ w1.heap.size := by omega
            have nz6 : v1.heap.size ≠ w.heap.size := by omega
            clear hb1 x0 x1 y0 y1 a0 a1 z0 z1 cx HB HI
            go_wp2_with (go_at_call 71; refine (HM64.out _).mono ?_; rintro e w9 ⟨rfl, rfl⟩)
            refine (HADD.out _).mono ?_
            rintro e v2 ⟨rfl, hb2⟩
            have sz2 : v1.heap.size + 1 ≤ v2.heap.size := by have := hb2.size; simp at this; omega
            have BV2 := Lib.hid (show Below w.heap.size w v2 from below_tr (by (repeat (first | with_reducible exact Below.refl _ _ | ((with_reducible refine Below.setCell ?_ ?_ _); rotate_left; (focus (first | omega | (simp; done) | (simp; omega)))) | ((with_reducible refine Below.alloc ?_ ?_ _); rotate_left; (focus (first | omega | (simp; done) | (simp; omega)))) | (with_reducible refine Below.drew ?_) | (with_reducible refine below_drewN ?_ _) | ((with_reducible refine Below.trans ?_ (Below.mono BV1.out ?_)); rotate_left; (focus (first | omega | (simp; done) | (simp; omega))))))) (hb2.mono (by simp; omega)))
            have IV2 := Lib.hid ((IV1.out.below (by (repeat (first | with_reducible exact Below.refl _ _ | ((with_reducible refine Below.setCell ?_ ?_ _); rotate_left; (focus (first | omega | (simp; done) | (simp; omega)))) | ((with_reducible refine Below.alloc ?_ ?_ _); rotate_left; (focus (first | omega | (simp; done) | (simp; omega)))) | (with_reducible refine Below.drew ?_) | (with_reducible refine below_drewN ?_ _))))).below hb2)
            have x0 := (hb2.cell (p := ⟨w.heap.size, 0, none⟩) (by simp; omega))
            have x1 := (hb2.cell (p := ⟨w.heap.size, 1, none⟩) (by simp; omega))
            have y0 := (hb2.frozen (p := ⟨w.heap.size, 0, none⟩) (by simp; omega))
            have y1 := (hb2.frozen (p := ⟨w.heap.size, 1, none⟩) (by simp; omega))
            have a0 := (hb2.cell (p := ⟨w1.heap.size, 0, none⟩) (by simp; omega))
            have a1 := (hb2.cell (p := ⟨w1.heap.size, 1, none⟩) (by simp; omega))
            have z0 := (hb2.frozen (p := ⟨w1.heap.size, 0, none⟩) (by simp; omega))
            have z1 := (hb2.frozen (p := ⟨w1.heap.size, 1, none⟩) (by simp; omega))
            have X0 : v2.cell? ⟨w.heap.size, 0, none⟩ = some (.int .u64 0) := by go_simp
            have X1 : v2.cell? ⟨w.heap.size, 1, none⟩ = some (.int .u64 0) := by go_simp
            have Y0 : v2.frozen? ⟨w.heap.size, 0, none⟩ = false := by go_simp
            have Y1 : v2.frozen? ⟨w.heap.size, 1, none⟩ = false := by go_simp
            have A0 : v2.cell? ⟨w1.heap.size, 0, none⟩ = some (.int .u64 hi) := by go_simp
            have A1 : v2.cell? ⟨w1.heap.size, 1, none⟩ = some (.int .u64 lo) := by go_simp
            have Z0 : v2.frozen? ⟨w1.heap.size, 0, none⟩ = false := by go_simp
            have Z1 : v2.frozen? ⟨w1.heap.size, 1, none⟩ = false := by go_simp
            clear x0 x1 y0 y1 a0 a1 z0 z1 hb2 x0' x1' y0' y1' a0' a1' z0' z1' nz1 nz2 nz3 nz4 nz5 nz6
            obtain ⟨f1, f2, f3, f4, f5, f6⟩ := HF.out
            obtain ⟨p1, p2⟩ := parse_mul HMM.out b1 b2 f2 f3 f4 f5
            clear f1 f2 f3 f4 f5 f6
            have P1 := Lib.hid p1; have P2 := Lib.hid p2
            clear p1 p2
            have mz1 : w1.heap.size < v2.heap.size := by omega
            have mz2 : w.heap.size < v2.heap.size := by omega
            have mz3 : w1.heap.size ≠ v2.heap.size := by omega
            have mz4 : w.heap.size ≠ v2.heap.size := by omega
            have mz5 : v2.heap.size ≠ w1.heap.size := by omega
            have mz6 : v2.heap.size ≠ w.heap.size := by omega
            have HN12 := Lib.hid (And.intro n1 n2)
            clear hov b1 b2 q1' q2' n1 n2 sz1 sz2
            by_cases hhi : 0 < (high : Int)
            · go_wp2_with fail
              refine bodyPost_ret (v := .tuple #[.agg #[.int .u64 0, .int .u64 0], .int .i64 10]) (by simp [results, Try.results24, go_sem, *]) rfl ⟨?_, ?_⟩
              · have := P1.out (.inl (by omega))
                rw [← HM.out, parse_none HNE.out HZ.out hdig.out (HDEC.out.trans (decN_over HX.out (by omega)))]; rfl
              · (repeat (first | with_reducible exact Below.refl _ _ | ((with_reducible refine Below.setCell ?_ ?_ _); rotate_left; (focus (first | omega | (simp; done) | (simp; omega)))) | ((with_reducible refine Below.alloc ?_ ?_ _); rotate_left; (focus (first | omega | (simp; done) | (simp; omega)))) | (with_reducible refine Below.drew ?_) | (with_reducible refine below_drewN ?_ _) | ((with_reducible refine Below.trans ?_ (Below.mono BV2.out ?_)); rotate_left; (focus (first | omega | (simp; done) | (simp; omega))))))
            · by_cases hae : ae = 0
              · subst hae
                obtain ⟨r1', r2'⟩ := P2.out (by omega) rfl
                obtain ⟨d, hd⟩ : ∃ d : Nat, x = 48 + d := ⟨(x - 48).toNat, by have := HXD.out; omega⟩
                subst hd
                have hd9 : d ≤ 9 := by have := HXD.out; omega
                have hdn : ((48 + (d : Int)) - 48).toNat = d := by omega
                have hof := fun W => wOf_any d W (by omega)
                rw [wv_of 0 d (by omega) (by omega)] at hof
                have hadd2 := fun W => wAdd_any (m2 * 10) d W r2' (by unfold T128; omega)
                have e10 : WV (m2 * 10) = .agg #[.int .u64 nh, .int .u64 nl] := by
                  obtain ⟨_, _, _, f4, _, _⟩ := HF.out
                  exact wv_of nh nl (by have := HN12.out; omega) (by omega)
                rw [e10, wv_of 0 d (by omega) (by omega)] at hadd2
                simp only [Int.natCast_zero] at hof hadd2
                have hw : IntKind.u8.wrap (48 + (d : Int) - 48) = d := by rw [show 48 + (d : Int) - 48 = d by omega]; exact wraps_u8 _ (by omega) (by omega)
                have hw2 : IntKind.u8.wrap (d : Int) = d := wraps_u8 _ (by omega) (by omega)
                have hw3 : IntKind.u64.wrap (d : Int) = d := by rw [IntKind.wrap_u64]; omega
                by_cases hfit : m2 * 10 + d < T128
                · rw [show addV (m2 * 10) d = m2 * 10 + d from if_pos hfit, show addE (m2 * 10) d = 0 from if_pos hfit] at hadd2
                  obtain ⟨rh, rl, u1, u2, u3', u4'⟩ := wv_ex hfit
                  rw [u4'] at hadd2
                  have HOF := Lib.hid hof; have HADD2 := Lib.hid hadd2
                  have HU := Lib.hid u3'
                  have HFIT := Lib.hid hfit
                  have HD9 := Lib.hid hd9; have HDN := Lib.hid hdn
                  clear hof hadd2 e10 u3' u4' r1' r2' hfit hd9 hdn
                  go_wp2_with fail
                  go_region_held3 (fun w' => w'.cell? ⟨v2.heap.size, 0, none⟩ = some (.int .u64 nh) ∧ w'.cell? ⟨v2.heap.size, 1, none⟩ = some (.int .u64 nl)) (first | (go_simp; done) | (go_keep; done) | (refine ⟨?_, ?_⟩ <;> first | (go_simp; done) | (go_keep; done))) (first | (first | (go_at_call 31; (with_reducible refine (HOF.out _).mono ?_); rintro e v3 ⟨rfl, hb3⟩; have BV3 := Lib.hid (show Below w.heap.size w v3 from below_tr (by (repeat (first | with_reducible exact Below.refl _ _ | ((with_reducible refine Below.setCell ?_ ?_ _); rotate_left; (focus (first | omega | (simp; done) | (simp; omega)))) | ((with_reducible refine Below.alloc ?_ ?_ _); rotate_left; (focus (first | omega | (simp; done) | (simp; omega)))) | (with_reducible refine Below.drew ?_) | (with_reducible refine below_drewN ?_ _) | ((with_reducible refine Below.trans ?_ (Below.mono BV2.out ?_)); rotate_left; (focus (first | omega | (simp; done) | (simp; omega))))))) (hb3.mono (by first | omega | (simp; done) | (simp; omega)))); have CV3 := Lib.hid (show Below v2.heap.size v2 v3 from below_tr (by (repeat (first | with_reducible exact Below.refl _ _ | ((with_reducible refine Below.setCell ?_ ?_ _); rotate_left; (focus (first | omega | (simp; done) | (simp; omega)))) | ((with_reducible refine Below.alloc ?_ ?_ _); rotate_left; (focus (first | omega | (simp; done) | (simp; omega)))) | (with_reducible refine Below.drew ?_) | (with_reducible refine below_drewN ?_ _)))) (hb3.mono (by first | omega | (simp; done) | (simp; omega)))); have o0 := hb3.cell (p := ⟨v2.heap.size, 0, none⟩) (by first | omega | (simp; done) | (simp; omega)); have o1 := hb3.cell (p := ⟨v2.heap.size, 1, none⟩) (by first | omega | (simp; done) | (simp; omega)); have o2 := hb3.frozen (p := ⟨v2.heap.size, 0, none⟩) (by first | omega | (simp; done) | (simp; omega)); have o3 := hb3.frozen (p := ⟨v2.heap.size, 1, none⟩) (by first | omega | (simp; done) | (simp; omega)); have o4 := hb3.cell (p := ⟨w1.heap.size, 0, none⟩) (by first | omega | (simp; done) | (simp; omega)); have o5 := hb3.cell (p := ⟨w1.heap.size, 1, none⟩) (by first | omega | (simp; done) | (simp; omega)); have o6 := hb3.frozen (p := ⟨w1.heap.size, 0, none⟩) (by first | omega | (simp; done) | (simp; omega)); have o7 := hb3.frozen (p := ⟨w1.heap.size, 1, none⟩) (by first | omega | (simp; done) | (simp; omega)); have sz3 : v2.heap.size + 1 ≤ v3.heap.size := (by have := hb3.size; first | omega | (simp at this; omega)); clear hb3) | (go_at_call 29; (with_reducible refine (HADD2.out _).mono ?_); rintro e v4 ⟨rfl, hb4⟩; have BV4 := Lib.hid (show Below w.heap.size w v4 from below_tr (by (repeat (first | with_reducible exact Below.refl _ _ | ((with_reducible refine Below.setCell ?_ ?_ _); rotate_left; (focus (first | omega | (simp; done) | (simp; omega)))) | ((with_reducible refine Below.alloc ?_ ?_ _); rotate_left; (focus (first | omega | (simp; done) | (simp; omega)))) | (with_reducible refine Below.drew ?_) | (with_reducible refine below_drewN ?_ _) | ((with_reducible refine Below.trans ?_ (Below.mono BV3.out ?_)); rotate_left; (focus (first | omega | (simp; done) | (simp; omega))))))) (hb4.mono (by first | omega | (simp; done) | (simp; omega)))); have CV4 := Lib.hid (show Below v2.heap.size v2 v4 from below_tr (by (repeat (first | with_reducible exact Below.refl _ _ | ((with_reducible refine Below.setCell ?_ ?_ _); rotate_left; (focus (first | omega | (simp; done) | (simp; omega)))) | ((with_reducible refine Below.alloc ?_ ?_ _); rotate_left; (focus (first | omega | (simp; done) | (simp; omega)))) | (with_reducible refine Below.drew ?_) | (with_reducible refine below_drewN ?_ _) | ((with_reducible refine Below.trans ?_ (Below.mono CV3.out ?_)); rotate_left; (focus (first | omega | (simp; done) | (simp; omega))))))) (hb4.mono (by first | omega | (simp; done) | (simp; omega)))); have sz4 : v2.heap.size + 1 ≤ v4.heap.size := (by have := hb4.size; first | omega | (simp at this; omega)); have o8 := hb4.cell (p := ⟨w1.heap.size, 0, none⟩) (by first | omega | (simp; done) | (simp; omega)); have o9 := hb4.cell (p := ⟨w1.heap.size, 1, none⟩) (by first | omega | (simp; done) | (simp; omega)); have oa := hb4.frozen (p := ⟨w1.heap.size, 0, none⟩) (by first | omega | (simp; done) | (simp; omega)); have ob := hb4.frozen (p := ⟨w1.heap.size, 1, none⟩) (by first | omega | (simp; done) | (simp; omega)); have o10 := hb4.cell (p := ⟨v2.heap.size, 0, none⟩) (by first | omega | (simp; done) | (simp; omega)); have o11 := hb4.cell (p := ⟨v2.heap.size, 1, none⟩) (by first | omega | (simp; done) | (simp; omega)); have o12 := hb4.frozen (p := ⟨v2.heap.size, 0, none⟩) (by first | omega | (simp; done) | (simp; omega)); have o13 := hb4.frozen (p := ⟨v2.heap.size, 1, none⟩) (by first | omega | (simp; done) | (simp; omega)); clear hb4)))
                  have D0 : v4.cell? ⟨w1.heap.size, 0, none⟩ = some (.int .u64 hi) := by go_simp
                  have D1 : v4.cell? ⟨w1.heap.size, 1, none⟩ = some (.int .u64 lo) := by go_simp
                  have D2 : v4.frozen? ⟨w1.heap.size, 0, none⟩ = false := by go_simp
                  have D3 : v4.frozen? ⟨w1.heap.size, 1, none⟩ = false := by go_simp
                  have D4 : v4.cell? ⟨w.heap.size, 0, none⟩ = some (.int .u64 0) := (CV4.out.cell (by simp; omega)).trans X0
                  have D5 : v4.cell? ⟨w.heap.size, 1, none⟩ = some (.int .u64 0) := (CV4.out.cell (by simp; omega)).trans X1
                  have D6 : v4.frozen? ⟨w.heap.size, 0, none⟩ = false := (CV4.out.frozen (by simp; omega)).trans Y0
                  have D7 : v4.frozen? ⟨w.heap.size, 1, none⟩ = false := (CV4.out.frozen (by simp; omega)).trans Y1
                  have IV4 := Lib.hid (IV2.out.below CV4.out)
                  clear o0 o1 o2 o3 o4 o5 o6 o7 o8 o9 oa ob o10 o11 o12 o13 X0 X1 Y0 Y1 A0 A1 Z0 Z1
                  go_wp2_with fail
                  have hne1 : w1.heap.size < w1.heap.size + 1 := by omega
                  go_roundw
                  case rel =>
                    refine ⟨k + 1, m2 * 10 + d, rh, rl, by go_num, by omega, HU.out, u1, u2, ?_, (IV4.out.setCell fresh_at (by simp) _).setCell fresh_at (by simp) _, by go_simp, by go_simp, by go_simp, by go_simp, by go_simp, by go_simp, by go_simp, by go_simp, by simp; omega, by (repeat (first | with_reducible exact Below.refl _ _ | ((with_reducible refine Below.setCell ?_ ?_ _); rotate_left; (focus (first | omega | (simp; done) | (simp; omega)))) | ((with_reducible refine Below.alloc ?_ ?_ _); rotate_left; (focus (first | omega | (simp; done) | (simp; omega)))) | (with_reducible refine Below.drew ?_) | (with_reducible refine below_drewN ?_ _) | ((with_reducible refine Below.trans ?_ (Below.mono BV4.out ?_)); rotate_left; (focus (first | omega | (simp; done) | (simp; omega))))))⟩
                    rw [HDEC.out, decN_step HX.out (by rw [HDN.out]; exact HFIT.out), HDN.out]
                  case measure => simp [intOf] <;> omega
                · have hov2 : T128 ≤ m2 * 10 + d := by omega
                  rw [show addV (m2 * 10) d = 0 from if_neg hfit, show addE (m2 * 10) d = 10 from if_neg hfit, wv_of 0 0 (by omega) (by omega)] at hadd2
                  simp only [Int.natCast_zero] at hadd2
                  have HOF := Lib.hid hof; have HADD2 := Lib.hid hadd2
                  have HFIT := Lib.hid hov2
                  have HD9 := Lib.hid hd9; have HDN := Lib.hid hdn
                  clear hof hadd2 e10 r1' r2' hfit hov2 hd9 hdn
                  go_wp2_with fail
                  go_region_held3 (fun w' => w'.cell? ⟨v2.heap.size, 0, none⟩ = some (.int .u64 nh) ∧ w'.cell? ⟨v2.heap.size, 1, none⟩ = some (.int .u64 nl)) (first | (go_simp; done) | (go_keep; done) | (refine ⟨?_, ?_⟩ <;> first | (go_simp; done) | (go_keep; done))) (first | (first | (go_at_call 31; (with_reducible refine (HOF.out _).mono ?_); rintro e v3 ⟨rfl, hb3⟩; have BV3 := Lib.hid (show Below w.heap.size w v3 from below_tr (by (repeat (first | with_reducible exact Below.refl _ _ | ((with_reducible refine Below.setCell ?_ ?_ _); rotate_left; (focus (first | omega | (simp; done) | (simp; omega)))) | ((with_reducible refine Below.alloc ?_ ?_ _); rotate_left; (focus (first | omega | (simp; done) | (simp; omega)))) | (with_reducible refine Below.drew ?_) | (with_reducible refine below_drewN ?_ _) | ((with_reducible refine Below.trans ?_ (Below.mono BV2.out ?_)); rotate_left; (focus (first | omega | (simp; done) | (simp; omega))))))) (hb3.mono (by first | omega | (simp; done) | (simp; omega)))); have CV3 := Lib.hid (show Below v2.heap.size v2 v3 from below_tr (by (repeat (first | with_reducible exact Below.refl _ _ | ((with_reducible refine Below.setCell ?_ ?_ _); rotate_left; (focus (first | omega | (simp; done) | (simp; omega)))) | ((with_reducible refine Below.alloc ?_ ?_ _); rotate_left; (focus (first | omega | (simp; done) | (simp; omega)))) | (with_reducible refine Below.drew ?_) | (with_reducible refine below_drewN ?_ _)))) (hb3.mono (by first | omega | (simp; done) | (simp; omega)))); have o0 := hb3.cell (p := ⟨v2.heap.size, 0, none⟩) (by first | omega | (simp; done) | (simp; omega)); have o1 := hb3.cell (p := ⟨v2.heap.size, 1, none⟩) (by first | omega | (simp; done) | (simp; omega)); have o2 := hb3.frozen (p := ⟨v2.heap.size, 0, none⟩) (by first | omega | (simp; done) | (simp; omega)); have o3 := hb3.frozen (p := ⟨v2.heap.size, 1, none⟩) (by first | omega | (simp; done) | (simp; omega)); have o4 := hb3.cell (p := ⟨w1.heap.size, 0, none⟩) (by first | omega | (simp; done) | (simp; omega)); have o5 := hb3.cell (p := ⟨w1.heap.size, 1, none⟩) (by first | omega | (simp; done) | (simp; omega)); have o6 := hb3.frozen (p := ⟨w1.heap.size, 0, none⟩) (by first | omega | (simp; done) | (simp; omega)); have o7 := hb3.frozen (p := ⟨w1.heap.size, 1, none⟩) (by first | omega | (simp; done) | (simp; omega)); have sz3 : v2.heap.size + 1 ≤ v3.heap.size := (by have := hb3.size; first | omega | (simp at this; omega)); clear hb3) | (go_at_call 29; (with_reducible refine (HADD2.out _).mono ?_); rintro e v4 ⟨rfl, hb4⟩; have BV4 := Lib.hid (show Below w.heap.size w v4 from below_tr (by (repeat (first | with_reducible exact Below.refl _ _ | ((with_reducible refine Below.setCell ?_ ?_ _); rotate_left; (focus (first | omega | (simp; done) | (simp; omega)))) | ((with_reducible refine Below.alloc ?_ ?_ _); rotate_left; (focus (first | omega | (simp; done) | (simp; omega)))) | (with_reducible refine Below.drew ?_) | (with_reducible refine below_drewN ?_ _) | ((with_reducible refine Below.trans ?_ (Below.mono BV3.out ?_)); rotate_left; (focus (first | omega | (simp; done) | (simp; omega))))))) (hb4.mono (by first | omega | (simp; done) | (simp; omega)))); have CV4 := Lib.hid (show Below v2.heap.size v2 v4 from below_tr (by (repeat (first | with_reducible exact Below.refl _ _ | ((with_reducible refine Below.setCell ?_ ?_ _); rotate_left; (focus (first | omega | (simp; done) | (simp; omega)))) | ((with_reducible refine Below.alloc ?_ ?_ _); rotate_left; (focus (first | omega | (simp; done) | (simp; omega)))) | (with_reducible refine Below.drew ?_) | (with_reducible refine below_drewN ?_ _) | ((with_reducible refine Below.trans ?_ (Below.mono CV3.out ?_)); rotate_left; (focus (first | omega | (simp; done) | (simp; omega))))))) (hb4.mono (by first | omega | (simp; done) | (simp; omega)))); have sz4 : v2.heap.size + 1 ≤ v4.heap.size := (by have := hb4.size; first | omega | (simp at this; omega)); have o8 := hb4.cell (p := ⟨w1.heap.size, 0, none⟩) (by first | omega | (simp; done) | (simp; omega)); have o9 := hb4.cell (p := ⟨w1.heap.size, 1, none⟩) (by first | omega | (simp; done) | (simp; omega)); have oa := hb4.frozen (p := ⟨w1.heap.size, 0, none⟩) (by first | omega | (simp; done) | (simp; omega)); have ob := hb4.frozen (p := ⟨w1.heap.size, 1, none⟩) (by first | omega | (simp; done) | (simp; omega)); have o10 := hb4.cell (p := ⟨v2.heap.size, 0, none⟩) (by first | omega | (simp; done) | (simp; omega)); have o11 := hb4.cell (p := ⟨v2.heap.size, 1, none⟩) (by first | omega | (simp; done) | (simp; omega)); have o12 := hb4.frozen (p := ⟨v2.heap.size, 0, none⟩) (by first | omega | (simp; done) | (simp; omega)); have o13 := hb4.frozen (p := ⟨v2.heap.size, 1, none⟩) (by first | omega | (simp; done) | (simp; omega)); clear hb4)))
                  have D4 : v4.cell? ⟨w.heap.size, 0, none⟩ = some (.int .u64 0) := (CV4.out.cell (by simp; omega)).trans X0
                  have D5 : v4.cell? ⟨w.heap.size, 1, none⟩ = some (.int .u64 0) := (CV4.out.cell (by simp; omega)).trans X1
                  have D6 : v4.frozen? ⟨w.heap.size, 0, none⟩ = false := (CV4.out.frozen (by simp; omega)).trans Y0
                  have D7 : v4.frozen? ⟨w.heap.size, 1, none⟩ = false := (CV4.out.frozen (by simp; omega)).trans Y1
                  clear X0 X1 Y0 Y1
                  go_wp2_with fail
                  refine bodyPost_ret (v := .tuple #[.agg #[.int .u64 0, .int .u64 0], .int .i64 10]) (by simp [results, Try.results24, go_sem, *]) rfl ⟨?_, ?_⟩
                  · rw [← HM.out, parse_none HNE.out HZ.out hdig.out (HDEC.out.trans (decN_over HX.out (by rw [HDN.out]; exact HFIT.out)))]; rfl
                  · (repeat (first | with_reducible exact Below.refl _ _ | ((with_reducible refine Below.setCell ?_ ?_ _); rotate_left; (focus (first | omega | (simp; done) | (simp; omega)))) | ((with_reducible refine Below.alloc ?_ ?_ _); rotate_left; (focus (first | omega | (simp; done) | (simp; omega)))) | (with_reducible refine Below.drew ?_) | (with_reducible refine below_drewN ?_ _) | ((with_reducible refine Below.trans ?_ (Below.mono BV4.out ?_)); rotate_left; (focus (first | omega | (simp; done) | (simp; omega))))))
              · go_wp2_with fail
                refine bodyPost_ret (v := .tuple #[.agg #[.int .u64 0, .int .u64 0], .int .i64 10]) (by simp [results, Try.results24, go_sem, *]) rfl ⟨?_, ?_⟩
                · have := P1.out (.inr hae)
                  rw [← HM.out, parse_none HNE.out HZ.out hdig.out (HDEC.out.trans (decN_over HX.out (by omega)))]; rfl
                · (repeat (first | with_reducible exact Below.refl _ _ | ((with_reducible refine Below.setCell ?_ ?_ _); rotate_left; (focus (first | omega | (simp; done) | (simp; omega)))) | ((with_reducible refine Below.alloc ?_ ?_ _); rotate_left; (focus (first | omega | (simp; done) | (simp; omega)))) | (with_reducible refine Below.drew ?_) | (with_reducible refine below_drewN ?_ _) | ((with_reducible refine Below.trans ?_ (Below.mono BV2.out ?_)); rotate_left; (focus (first | omega | (simp; done) | (simp; omega))))))
          · obtain rfl : k = l.length := by omega
            clear hk hk2
            have hfin := HDEC.out
            rw [List.drop_length, decN] at hfin
            have HFIN := Lib.hid (parse_some HNE.out HZ.out hdig.out hfin)
            clear hfin
            go_wp2_with fail
            refine bodyPost_ret (v := .tuple #[.agg #[.int .u64 hi, .int .u64 lo], .int .i64 0]) (by simp [results, Try.results24, go_sem, *]) rfl ⟨?_, ?_⟩
            · rw [← HM.out, HFIN.out, wv_of hi lo (by omega) HMM.out]
            · (repeat (first | with_reducible exact Below.refl _ _ | ((with_reducible refine Below.setCell ?_ ?_ _); rotate_left; (focus (first | omega | (simp; done) | (simp; omega)))) | ((with_reducible refine Below.alloc ?_ ?_ _); rotate_left; (focus (first | omega | (simp; done) | (simp; omega)))) | (with_reducible refine Below.drew ?_) | (with_reducible refine below_drewN ?_ _) | ((with_reducible refine Below.trans ?_ (Below.mono HB.out ?_)); rotate_left; (focus (first | omega | (simp; done) | (simp; omega))))))

/-- wide.Parse: any text of at most 1048576 bytes. -/
theorem wParse_any (s : ByteArray) (l : List Int) (w : World) (hs : s.data.toList.map (fun b => (b.toNat : Int)) = l) (hl : l.length ≤ 1048576) :
    Calls Try.prog 24 #[.string s] w fun e w' => e = .returned (.tuple #[WV (parseL l).1, .int .i64 (parseL l).2]) ∧ Below w.heap.size w w' := by
  have hb8 : ∀ x ∈ l, 0 ≤ x ∧ x ≤ 255 := by
    intro x hx
    rw [← hs] at hx
    obtain ⟨b, _, rfl⟩ := List.mem_map.1 hx
    have := b.toNat_lt
    omega
  by_cases hne : l = []
  · have hp : parseL l = (0, 20) := by rw [hne]; rfl
    rw [hp]
    have : s = ⟨#[]⟩ := by
      have h2 := str_size hs
      rw [hne] at h2
      cases s with | mk d =>
        have h3 : d.size = 0 := h2
        rw [Array.eq_empty_of_size_eq_zero h3]
    subst this
    exact wParse_empty w
  · by_cases hz : 1 < l.length ∧ l[0]? = some 48
    · have hp : parseL l = (0, 20) := by unfold parseL; rw [if_pos (.inr hz)]
      rw [hp]
      have h2 := str_size hs
      refine wParse_zero s w ?_ (by omega) ?_
      · intro h
        have := toList_len s
        rw [h] at this
        have h4 : (0 : Nat) = s.size := this
        omega
      · intro h
        have := lead_eq hs h
        rw [hz.2] at this
        injection this with this
        omega
    · exact wParse_loop s l w hs hl hne hz hb8

theorem nums_bytes {l : List Int} (h : ∀ x ∈ l, 0 ≤ x ∧ x ≤ 255) : (strOfNums l).data.toList.map (fun b => (b.toNat : Int)) = l := by
  unfold strOfNums
  simp only [List.map_map]
  conv => rhs; rw [← List.map_id l]
  refine List.map_congr_left fun x hx => ?_
  have := h x hx
  show (((UInt8.ofNat x.toNat).toNat : Nat) : Int) = x
  rw [UInt8.toNat_ofNat']
  omega

theorem wParse_nums (l : List Int) (w : World) (h : ∀ x ∈ l, 0 ≤ x ∧ x ≤ 255) (hl : l.length ≤ 1048576) :
    Calls Try.prog 24 #[.string (strOfNums l)] w fun e w' => e = .returned (.tuple #[WV (parseL l).1, .int .i64 (parseL l).2]) ∧ Below w.heap.size w w' :=
  wParse_any _ _ _ (nums_bytes h) hl
end Go.Proofs.Yticpmcghdoiceaa
