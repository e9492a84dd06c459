/-
  Walks: the product of parts and a vector (vec.Dot, copseref08.Dot), copseref08.Is, copseref08.Parts.
-/
import Derived.Test.YtopodhcgfmpphaaVecB
namespace Go.Proofs.Ytopodhcgfmpphaa
open Go.RowKit

theorem dot_step : ∀ {c x : List Int} {k : Nat} {a b : Int}, c[k]? = some a → x[k]? = some b → dotI (c.take (k + 1)) (x.take (k + 1)) = dotI (c.take k) (x.take k) + a * b
  | [], _, k, a, b, h, _ => by simp at h
  | _ :: _, [], k, a, b, _, h => by simp at h
  | c0 :: c, x0 :: x, 0, a, b, h, h' => by
    simp at h h'
    subst h; subst h'
    simp [dotI]
  | c0 :: c, x0 :: x, k + 1, a, b, h, h' => by
    have := dot_step (c := c) (x := x) (k := k) (a := a) (b := b) (by simpa using h) (by simpa using h')
    simp only [List.take_succ_cons, dotI]
    rw [this]; omega

theorem mul_bd {a b : Int} (ha : isC a = true) (hb : isV b = true) : -8589934592 ≤ a * b ∧ a * b ≤ 8589934592 := by
  unfold isC at ha
  unfold isV at hb
  simp only [Bool.and_eq_true, decide_eq_true_eq] at ha hb
  have : a = -4 ∨ a = -3 ∨ a = -2 ∨ a = -1 ∨ a = 0 ∨ a = 1 ∨ a = 2 ∨ a = 3 ∨ a = 4 := by omega
  rcases this with rfl | rfl | rfl | rfl | rfl | rfl | rfl | rfl | rfl <;> omega

theorem dot_bd : ∀ {c x : List Int}, c.all isC = true → x.all isV = true → c.length ≤ 8 → -(8589934592 * (c.length : Int)) ≤ dotI c x ∧ dotI c x ≤ 8589934592 * (c.length : Int)
  | [], x, _, _, _ => by simp [dotI]
  | _ :: _, [], _, _, h => by simp only [dotI, List.length_cons]; omega
  | a :: c, b :: x, hc, hx, h => by
    simp only [List.all_cons, Bool.and_eq_true] at hc hx
    have := dot_bd (c := c) (x := x) hc.2 hx.2 (by simp at h; omega)
    have := mul_bd hc.1 hx.1
    simp only [dotI, List.length_cons]
    omega

theorem partsB_yes {l : List Int} {dim : Int} (h : partsB l dim = true) : 1 ≤ dim ∧ dim ≤ 8 ∧ (l.length : Int) = dim ∧ l.all isC = true := by
  rw [partsB_is] at h
  unfold preB at h
  simp only [Bool.and_eq_true, decide_eq_true_eq] at h
  exact ⟨h.1.1.1.1, h.1.1.1.2, h.1.1.2, h.1.2⟩

theorem vecB_yes {l : List Int} {dim : Int} (h : vecB l dim = true) : 1 ≤ dim ∧ dim ≤ 8 ∧ (l.length : Int) = dim ∧ l.all isV = true := by
  rw [vecB_is] at h
  unfold preB at h
  simp only [Bool.and_eq_true, decide_eq_true_eq] at h
  exact ⟨h.1.1.1, h.1.1.2, h.1.2, h.2⟩

theorem all_take {p : Int → Bool} {l : List Int} (h : l.all p = true) (k : Nat) : (l.take k).all p = true := by
  rw [List.all_eq_true] at h ⊢
  exact fun x hx => h x (List.mem_of_mem_take hx)

theorem all_at {p : Int → Bool} {l : List Int} (h : l.all p = true) {k : Nat} {x : Int} (hx : l[k]? = some x) : p x = true := by
  rw [List.all_eq_true] at h
  exact h x (List.mem_of_getElem? hx)

def dotOk (c x : List Int) : Bool := partsB c c.length && vecB x c.length

set_option maxHeartbeats 2000000 in
theorem vdot_any (v v2 : Value) (c x : List Int) (w : World) (h : Ints .i64 w v c) (h2 : Ints .i64 w v2 x) :
    Calls Try.prog 143 #[v, v2] w fun e w' => e = .returned (.tuple #[.int .i64 (if dotOk c x then dotI c x else 0), .int .i64 (if dotOk c x then 0 else 80)]) ∧ ∃ n, w' = w.drewN n := by
  have HC := Lib.hid (fun W dim (hW : Ints .i64 W v c) => vparts_any v c dim W hW)
  have HD := Lib.hid (fun W dim (hW : Ints .i64 W v2 x) => vis_any v2 x dim W hW)
  have HI := Lib.hid h
  have HJ := Lib.hid h2
  obtain ⟨a, cc, rfl, _, _, q3, h⟩ := h
  obtain ⟨a2, cc2, rfl, _, _, q32, h2⟩ := h2
  unfold dotOk
  cases hp : partsB c c.length with
  | false =>
    obtain ⟨m, hm⟩ : ∃ m, c.length = m := ⟨_, rfl⟩
    rw [hm] at hp HC HI ⊢
    have HCC := Lib.hid (fun W (hW : Ints .i64 W (.slice a m cc) c) => hp ▸ HC.out W m hW)
    clear hp HC h h2 hm
    go_enter Try.func143, Try.ntmps143
    go_wp2_with fail
    refine (HCC.out _ HI.out).mono ?_
    rintro e w1 ⟨rfl, d, rfl⟩
    go_wp2_with fail
    exact bodyPost_ret (v := .tuple #[.int .i64 0, .int .i64 80]) (by simp [results, Try.results143, go_sem]) rfl ⟨rfl, _, rfl⟩
  | true =>
    cases hv : vecB x c.length with
    | false =>
      obtain ⟨m, hm⟩ : ∃ m, c.length = m := ⟨_, rfl⟩
      rw [hm] at hp hv HC HI ⊢
      have HCC := Lib.hid (fun W (hW : Ints .i64 W (.slice a m cc) c) => hp ▸ HC.out W m hW)
      have HDD := Lib.hid (fun W (hW : Ints .i64 W (.slice a2 x.length cc2) x) => hv ▸ HD.out W m hW)
      clear hp hv HC HD h h2 hm
      go_enter Try.func143, Try.ntmps143
      go_wp2_with fail
      refine (HCC.out _ HI.out).mono ?_
      rintro e w1 ⟨rfl, d, rfl⟩
      go_wp2_with fail
      refine (HDD.out _ (HJ.out.drewN _)).mono ?_
      rintro e w1 ⟨rfl, rfl⟩
      go_wp2_with fail
      exact bodyPost_ret (v := .tuple #[.int .i64 0, .int .i64 80]) (by simp [results, Try.results143, go_sem]) rfl ⟨rfl, _, rfl⟩
    | true =>
      obtain ⟨p1, p2, p3, p4⟩ := partsB_yes hp
      obtain ⟨r1, r2, r3, r4⟩ := vecB_yes hv
      have hlen : x.length = c.length := by omega
      have HL := Lib.hid hlen
      obtain ⟨m, hm⟩ : ∃ m, c.length = m := ⟨_, rfl⟩
      rw [hlen] at HD HJ q32 ⊢
      have HM := Lib.hid hm
      rw [hm] at hp hv HC HD HI HJ p2 q3 q32 ⊢
      have HCC := Lib.hid (fun W (hW : Ints .i64 W (.slice a m cc) c) => hp ▸ HC.out W m hW)
      have HDD := Lib.hid (fun W (hW : Ints .i64 W (.slice a2 m cc2) x) => hv ▸ HD.out W m hW)
      have HA := Lib.hid h
      have HB := Lib.hid h2
      have HP4 := Lib.hid p4
      have HR4 := Lib.hid r4
      have i8 : (m : Int) ≤ 8 := by omega
      clear hp hv HC HD h h2 hm hlen p1 p2 p3 p4 r1 r2 r3 r4
      go_enter Try.func143, Try.ntmps143
      go_wp2_with fail
      refine (HCC.out _ HI.out).mono ?_
      rintro e w1 ⟨rfl, d, rfl⟩
      go_wp2_with fail
      refine (HDD.out _ (HJ.out.drewN _)).mono ?_
      rintro e w1 ⟨rfl, rfl⟩
      go_wp2_with fail
      go_loopw [6, 7, 8, 23] (fun s _ _ i wr => ∃ k : Nat, i = .int .i64 k ∧ k ≤ m ∧ s = .int .i64 (dotI (c.take k) (x.take k)) ∧ w.drewN d = wr) (fun _ _ _ i _ => m - (intOf i).toNat)
      case atStart => exact ⟨0, rfl, by omega, by simp [dotI], rfl⟩
      case round =>
        obtain ⟨k, rfl, hk, rfl, rfl⟩ := hrel
        by_cases hlt : k < m
        · obtain ⟨y, hy⟩ := getElem?_ex (l := c) (k := k) (by rw [HM.out]; exact hlt)
          obtain ⟨z, hz⟩ := getElem?_ex (l := x) (k := k) (by rw [HL.out, HM.out]; exact hlt)
          obtain ⟨b1, o1, rfl, hb1, hc1⟩ := HA.out k y hy
          obtain ⟨b2, o2, rfl, hb2, hc2⟩ := HB.out k z hz
          have hs := dot_step hy hz
          have hb := dot_bd (all_take HP4.out k) (all_take HR4.out k) (by simp; omega)
          have hmb := mul_bd (all_at HP4.out hy) (all_at HR4.out hz)
          have hlk : (((c.take k).length : Nat) : Int) ≤ 8 := by simp; omega
          obtain ⟨A, hA⟩ : ∃ A, dotI (c.take k) (x.take k) = A := ⟨_, rfl⟩
          have hb1' : -68719476736 ≤ A := by omega
          have hb2' : A ≤ 68719476736 := by omega
          rw [hA] at hs ⊢
          obtain ⟨p, hp⟩ : ∃ p, y * z = p := ⟨_, rfl⟩
          have hm1 := hmb.1
          have hm2 := hmb.2
          rw [hp] at hs hm1 hm2
          have HS := Lib.hid hs
          have i1 : (0 : Int) ≤ (k : Int) := by omega
          have i2 : (k : Int) < (m : Int) := by omega
          clear hy hz hs hb hmb hA hlk
          go_wp2_with fail
          go_roundw
          case rel => exact ⟨k + 1, by go_num, by omega, by rw [HS.out], trivial⟩
          case measure => simp [intOf] <;> omega
        · obtain rfl : k = m := by omega
          have hT1 := Lib.hid (List.take_of_length_le (l := c) (i := k) (by rw [HM.out]; omega))
          have hT2 := Lib.hid (List.take_of_length_le (l := x) (i := k) (by rw [HL.out, HM.out]; omega))
          go_wp2_with fail
          exact bodyPost_ret (v := .tuple #[.int .i64 (dotI (c.take k) (x.take k)), .int .i64 0]) (by simp [results, Try.results143, go_sem]) rfl ⟨by rw [hT1.out, hT2.out], _, rfl⟩

set_option maxHeartbeats 1000000 in
theorem risv_any (v : Value) (l : List Int) (dim : Int) (w : World) (h : Ints .i64 w v l) :
    Calls Try.prog 21 #[v, .int .i64 dim] w fun e w' => e = .returned (.bool (vecB l dim)) ∧ w = w' := by
  obtain ⟨a, c, rfl, _, _, h3, h⟩ := h
  have H := Lib.hid h; clear h
  rw [vecB_is]
  by_cases h1 : 1 ≤ dim
  · by_cases h2 : dim ≤ 8
    · by_cases h4 : (l.length : Int) = dim
      · rw [pre_yes h1 h2 h4, Bool.true_and]
        have h5 : ((l.length : Int) != dim) = false := by simp [h4]
        go_enter Try.func21, Try.ntmps21
        go_wp2_with fail
        go_loopw [5] (fun i wr => ∃ k : Nat, i = .int .i64 k ∧ k ≤ l.length ∧ (l.take k).all isV = true ∧ w = wr) (fun i _ => l.length + 1 - (intOf i).toNat)
        case atStart => exact ⟨0, rfl, by omega, by simp, rfl⟩
        case round =>
          obtain ⟨k, rfl, hk, hA, rfl⟩ := hrel
          have HA := Lib.hid hA
          clear hA
          by_cases hlt : k < l.length
          · obtain ⟨x, hx⟩ := getElem?_ex hlt
            obtain ⟨b1, o1, rfl, hb1, hc1⟩ := H.out k x hx
            have hs := all_step (p := isV) hx
            have HS := Lib.hid hs
            have i1 : (0 : Int) ≤ (k : Int) := by omega
            have i2 : (k : Int) < (l.length : Int) := by omega
            have i3 : (k : Int) ≤ 140737488351232 := by omega
            clear hx hs
            by_cases g1 : -2147483648 ≤ x
            · by_cases g2 : x ≤ 2147483647
              · have G := Lib.hid (show isV x = true by unfold isV; simp [g1, g2])
                go_wp2_with fail
                go_roundw
                case rel => exact ⟨k + 1, by go_num, by omega, by rw [HS.out, HA.out, G.out]; rfl, trivial⟩
                case measure => simp [intOf] <;> omega
              · have G := Lib.hid (show l.all isV = false from all_false_of_take (k := k + 1) (by rw [HS.out, show isV x = false by unfold isV; simp [g2]] <;> simp))
                go_wp2_with fail
                go_ret
                exact ⟨ret_bool G.out.symm, rfl⟩
            · have G := Lib.hid (show l.all isV = false from all_false_of_take (k := k + 1) (by rw [HS.out, show isV x = false by unfold isV; simp [g1]] <;> simp))
              go_wp2_with fail
              go_ret
              exact ⟨ret_bool G.out.symm, rfl⟩
          · obtain rfl : k = l.length := by omega
            go_wp2_with fail
            go_ret
            refine ⟨ret_bool ?_, rfl⟩
            have hA := HA.out
            rw [List.take_length] at hA
            exact hA.symm
      · rw [pre_3 h4, Bool.false_and]
        have h5 : ((l.length : Int) != dim) = true := by simp [h4]
        go_enter Try.func21, Try.ntmps21
        go_wp2_with fail
        go_ret
        exact ⟨rfl, rfl⟩
    · rw [pre_2 h2, Bool.false_and]
      go_enter Try.func21, Try.ntmps21
      go_wp2_with fail
      go_ret
      exact ⟨rfl, rfl⟩
  · rw [pre_1 h1, Bool.false_and]
    go_enter Try.func21, Try.ntmps21
    go_wp2_with fail
    go_ret
    exact ⟨rfl, rfl⟩

set_option maxHeartbeats 1000000 in
theorem rparts_any (v : Value) (l : List Int) (dim : Int) (w : World) (h : Ints .i64 w v l) :
    Calls Try.prog 137 #[v, .int .i64 dim] w fun e w' => e = .returned (.bool (partsB l dim)) ∧ w = w' := by
  obtain ⟨a, c, rfl, _, _, h3, h⟩ := h
  have H := Lib.hid h; clear h
  rw [partsB_is]
  by_cases h1 : 1 ≤ dim
  · by_cases h2 : dim ≤ 8
    · by_cases h4 : (l.length : Int) = dim
      · rw [pre_yes h1 h2 h4, Bool.true_and]
        have h5 : ((l.length : Int) != dim) = false := by simp [h4]
        go_enter Try.func137, Try.ntmps137
        go_wp2_with fail
        go_loopw [5, 6] (fun s i wr => ∃ k : Nat, i = .int .i64 k ∧ k ≤ l.length ∧ (l.take k).all isC = true ∧ s = .bool ((l.take k).any fun x => decide (x ≠ 0)) ∧ w = wr) (fun _ i _ => l.length + 1 - (intOf i).toNat)
        case atStart => exact ⟨0, rfl, by omega, by simp, by simp, rfl⟩
        case round =>
          obtain ⟨k, rfl, hk, hA, rfl, rfl⟩ := hrel
          have HA := Lib.hid hA
          clear hA
          by_cases hlt : k < l.length
          · obtain ⟨x, hx⟩ := getElem?_ex hlt
            obtain ⟨b1, o1, rfl, hb1, hc1⟩ := H.out k x hx
            have hs := all_step (p := isC) hx
            have HS := Lib.hid hs
            have HS2 := Lib.hid (any_step (p := fun x => decide (x ≠ 0)) hx)
            have i1 : (0 : Int) ≤ (k : Int) := by omega
            have i2 : (k : Int) < (l.length : Int) := by omega
            have i3 : (k : Int) ≤ 140737488351232 := by omega
            obtain ⟨S, hS⟩ : ∃ S, ((l.take k).any fun x => decide (x ≠ 0)) = S := ⟨_, rfl⟩
            rw [hS] at HS2 ⊢
            clear hx hs hS
            by_cases g1 : -4 ≤ x
            · by_cases g2 : x ≤ 4
              · have G := Lib.hid (show isC x = true by unfold isC; simp [g1, g2])
                cases S with
                | true =>
                  go_wp2_with fail
                  go_roundw
                  case rel => exact ⟨k + 1, by go_num, by omega, by rw [HS.out, HA.out, G.out]; rfl, by rw [HS2.out]; rfl, trivial⟩
                  case measure => simp [intOf] <;> omega
                | false =>
                  by_cases g3 : x = 0
                  · have g4 : (x != 0) = false := by simp [g3]
                    have G2 := Lib.hid (show decide (x ≠ 0) = false by simp [g3])
                    clear g3
                    go_wp2_with fail
                    go_roundw
                    case rel => exact ⟨k + 1, by go_num, by omega, by rw [HS.out, HA.out, G.out]; rfl, by rw [HS2.out, G2.out]; rfl, trivial⟩
                    case measure => simp [intOf] <;> omega
                  · have g4 : (x != 0) = true := by simp [g3]
                    have G2 := Lib.hid (show decide (x ≠ 0) = true by simp [g3])
                    clear g3
                    go_wp2_with fail
                    go_roundw
                    case rel => exact ⟨k + 1, by go_num, by omega, by rw [HS.out, HA.out, G.out]; rfl, by rw [HS2.out, G2.out]; rfl, trivial⟩
                    case measure => simp [intOf] <;> omega
              · have G := Lib.hid (show l.all isC = false from all_false_of_take (k := k + 1) (by rw [HS.out, show isC x = false by unfold isC; simp [g2]] <;> simp))
                go_wp2_with fail
                go_ret
                exact ⟨ret_bool (by rw [G.out]; rfl), rfl⟩
            · have G := Lib.hid (show l.all isC = false from all_false_of_take (k := k + 1) (by rw [HS.out, show isC x = false by unfold isC; simp [g1]] <;> simp))
              go_wp2_with fail
              go_ret
              exact ⟨ret_bool (by rw [G.out]; rfl), rfl⟩
          · obtain rfl : k = l.length := by omega
            go_wp2_with fail
            go_ret
            refine ⟨ret_bool ?_, rfl⟩
            have hA := HA.out
            rw [List.take_length] at hA
            rw [hA]
            simp
      · rw [pre_3 h4, Bool.false_and, Bool.false_and]
        have h5 : ((l.length : Int) != dim) = true := by simp [h4]
        go_enter Try.func137, Try.ntmps137
        go_wp2_with fail
        go_ret
        exact ⟨rfl, rfl⟩
    · rw [pre_2 h2, Bool.false_and, Bool.false_and]
      go_enter Try.func137, Try.ntmps137
      go_wp2_with fail
      go_ret
      exact ⟨rfl, rfl⟩
  · rw [pre_1 h1, Bool.false_and, Bool.false_and]
    go_enter Try.func137, Try.ntmps137
    go_wp2_with fail
    go_ret
    exact ⟨rfl, rfl⟩
set_option maxHeartbeats 2000000 in
theorem rdot_any (v v2 : Value) (c x : List Int) (w : World) (h : Ints .i64 w v c) (h2 : Ints .i64 w v2 x) :
    Calls Try.prog 108 #[v, v2] w fun e w' => e = .returned (.tuple #[.int .i64 (if dotOk c x then dotI c x else 0), .int .i64 (if dotOk c x then 0 else 80)]) ∧ ∃ n, w' = w.drewN n := by
  have HC := Lib.hid (fun W dim (hW : Ints .i64 W v c) => rparts_any v c dim W hW)
  have HD := Lib.hid (fun W dim (hW : Ints .i64 W v2 x) => risv_any v2 x dim W hW)
  have HI := Lib.hid h
  have HJ := Lib.hid h2
  obtain ⟨a, cc, rfl, _, _, q3, h⟩ := h
  obtain ⟨a2, cc2, rfl, _, _, q32, h2⟩ := h2
  unfold dotOk
  cases hp : partsB c c.length with
  | false =>
    obtain ⟨m, hm⟩ : ∃ m, c.length = m := ⟨_, rfl⟩
    rw [hm] at hp HC HI ⊢
    have HCC := Lib.hid (fun W (hW : Ints .i64 W (.slice a m cc) c) => hp ▸ HC.out W m hW)
    clear hp HC h h2 hm
    go_enter Try.func108, Try.ntmps108
    go_wp2_with fail
    refine (HCC.out _ HI.out).mono ?_
    rintro e w1 ⟨rfl, rfl⟩
    go_wp2_with fail
    exact bodyPost_ret (v := .tuple #[.int .i64 0, .int .i64 80]) (by simp [results, Try.results108, go_sem]) rfl ⟨rfl, 0, rfl⟩
  | true =>
    cases hv : vecB x c.length with
    | false =>
      obtain ⟨m, hm⟩ : ∃ m, c.length = m := ⟨_, rfl⟩
      rw [hm] at hp hv HC HI ⊢
      have HCC := Lib.hid (fun W (hW : Ints .i64 W (.slice a m cc) c) => hp ▸ HC.out W m hW)
      have HDD := Lib.hid (fun W (hW : Ints .i64 W (.slice a2 x.length cc2) x) => hv ▸ HD.out W m hW)
      clear hp hv HC HD h h2 hm
      go_enter Try.func108, Try.ntmps108
      go_wp2_with fail
      refine (HCC.out _ HI.out).mono ?_
      rintro e w1 ⟨rfl, rfl⟩
      go_wp2_with fail
      refine (HDD.out _ HJ.out).mono ?_
      rintro e w1 ⟨rfl, rfl⟩
      go_wp2_with fail
      exact bodyPost_ret (v := .tuple #[.int .i64 0, .int .i64 80]) (by simp [results, Try.results108, go_sem]) rfl ⟨rfl, 0, rfl⟩
    | true =>
      obtain ⟨p1, p2, p3, p4⟩ := partsB_yes hp
      obtain ⟨r1, r2, r3, r4⟩ := vecB_yes hv
      have hlen : x.length = c.length := by omega
      have HL := Lib.hid hlen
      obtain ⟨m, hm⟩ : ∃ m, c.length = m := ⟨_, rfl⟩
      rw [hlen] at HD HJ q32 ⊢
      have HM := Lib.hid hm
      rw [hm] at hp hv HC HD HI HJ p2 q3 q32 ⊢
      have HCC := Lib.hid (fun W (hW : Ints .i64 W (.slice a m cc) c) => hp ▸ HC.out W m hW)
      have HDD := Lib.hid (fun W (hW : Ints .i64 W (.slice a2 m cc2) x) => hv ▸ HD.out W m hW)
      have HA := Lib.hid h
      have HB := Lib.hid h2
      have HP4 := Lib.hid p4
      have HR4 := Lib.hid r4
      have i8 : (m : Int) ≤ 8 := by omega
      clear hp hv HC HD h h2 hm hlen p1 p2 p3 p4 r1 r2 r3 r4
      go_enter Try.func108, Try.ntmps108
      go_wp2_with fail
      refine (HCC.out _ HI.out).mono ?_
      rintro e w1 ⟨rfl, rfl⟩
      go_wp2_with fail
      refine (HDD.out _ HJ.out).mono ?_
      rintro e w1 ⟨rfl, rfl⟩
      go_wp2_with fail
      go_loopw [6, 7] (fun s i wr => ∃ k : Nat, i = .int .i64 k ∧ k ≤ m ∧ s = .int .i64 (dotI (c.take k) (x.take k)) ∧ ∃ d, wr = w.drewN d) (fun _ i _ => m - (intOf i).toNat)
      case atStart => exact ⟨0, rfl, by omega, by simp [dotI], 0, rfl⟩
      case round =>
        obtain ⟨k, rfl, hk, rfl, d, rfl⟩ := hrel
        by_cases hlt : k < m
        · obtain ⟨y, hy⟩ := getElem?_ex (l := c) (k := k) (by rw [HM.out]; exact hlt)
          obtain ⟨z, hz⟩ := getElem?_ex (l := x) (k := k) (by rw [HL.out, HM.out]; exact hlt)
          obtain ⟨b1, o1, rfl, hb1, hc1⟩ := HA.out k y hy
          obtain ⟨b2, o2, rfl, hb2, hc2⟩ := HB.out k z hz
          have hs := dot_step hy hz
          have hb := dot_bd (all_take HP4.out k) (all_take HR4.out k) (by simp; omega)
          have hmb := mul_bd (all_at HP4.out hy) (all_at HR4.out hz)
          have hlk : (((c.take k).length : Nat) : Int) ≤ 8 := by simp; omega
          obtain ⟨A, hA⟩ : ∃ A, dotI (c.take k) (x.take k) = A := ⟨_, rfl⟩
          have hb1' : -68719476736 ≤ A := by omega
          have hb2' : A ≤ 68719476736 := by omega
          rw [hA] at hs ⊢
          obtain ⟨p, hp⟩ : ∃ p, y * z = p := ⟨_, rfl⟩
          have hm1 := hmb.1
          have hm2 := hmb.2
          rw [hp] at hs hm1 hm2
          have HS := Lib.hid hs
          have i1 : (0 : Int) ≤ (k : Int) := by omega
          have i2 : (k : Int) < (m : Int) := by omega
          clear hy hz hs hb hmb hA hlk
          go_wp2_with fail
          go_quiet (fail)
          go_wp2_with fail
          go_roundw
          case rel => exact ⟨k + 1, by go_num, by omega, by rw [HS.out], _, rfl⟩
          case measure => simp [intOf] <;> omega
        · obtain rfl : k = m := by omega
          have hT1 := Lib.hid (List.take_of_length_le (l := c) (i := k) (by rw [HM.out]; omega))
          have hT2 := Lib.hid (List.take_of_length_le (l := x) (i := k) (by rw [HL.out, HM.out]; omega))
          go_wp2_with fail
          exact bodyPost_ret (v := .tuple #[.int .i64 (dotI (c.take k) (x.take k)), .int .i64 0]) (by simp [results, Try.results108, go_sem]) rfl ⟨by rw [hT1.out, hT2.out], _, rfl⟩

end Go.Proofs.Ytopodhcgfmpphaa
