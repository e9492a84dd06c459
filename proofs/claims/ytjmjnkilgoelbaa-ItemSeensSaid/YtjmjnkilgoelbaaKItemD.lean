/-
  ItemD: Walks of item.names, item.few, item.RightAsk.
-/
import Derived.Test.YtjmjnkilgoelbaaKItemC
import Derived.Test.YtjmjnkilgoelbaaJ0c
namespace Go.Proofs.Ytjmjnkilgoelbaa
open Go.RowKit

def whatI (k : Int) : Int := if k = 1 then 3 else if k = 2 then 2 else if k = 3 then 12 else if k = 4 then 4 else if k = 7 then 2 else 0

set_option maxRecDepth 100000 in
set_option maxHeartbeats 4000000 in
theorem names_any (k : Int) (w : World) : Calls Try.prog 100 #[.int .i64 k] w fun e w' => e = .returned (.tuple #[.int .i64 (whatI k), .bool (decide (1 ≤ k ∧ k ≤ 7))]) ∧ w = w' := by
  by_cases h : 1 ≤ k ∧ k ≤ 7
  · obtain rfl | rfl | rfl | rfl | rfl | rfl | rfl : k = 1 ∨ k = 2 ∨ k = 3 ∨ k = 4 ∨ k = 5 ∨ k = 6 ∨ k = 7 := by omega
    all_goals
      clear h
      go_enter Try.func100, Try.ntmps100
      go_wp2_with fail
      go_ret2
      exact ⟨rfl, rfl⟩
  · rw [decide_eq_false h, show whatI k = 0 by unfold whatI; repeat' split <;> omega]
    obtain ⟨h1, h2, h3, h4, h5, h6, h7⟩ : (k == 1) = false ∧ (k == 2) = false ∧ (k == 3) = false ∧ (k == 4) = false ∧ (k == 5) = false ∧ (k == 6) = false ∧ (k == 7) = false := by simp; omega
    clear h
    go_enter Try.func100, Try.ntmps100
    go_wp2_with fail
    go_ret2
    exact ⟨rfl, rfl⟩

theorem bits_what {k : Int} (h : 1 ≤ k ∧ k ≤ 7) : bits BinOp.and IntKind.i64 (whatI k) 1 = (if k = 1 then 1 else 0) ∧ bits BinOp.and IntKind.i64 (whatI k) 2 = (if k = 1 ∨ k = 2 ∨ k = 7 then 2 else 0) ∧ bits BinOp.and IntKind.i64 (whatI k) 4 = (if k = 3 ∨ k = 4 then 4 else 0) ∧ bits BinOp.and IntKind.i64 (whatI k) 8 = (if k = 3 then 8 else 0) := by
  obtain rfl | rfl | rfl | rfl | rfl | rfl | rfl : k = 1 ∨ k = 2 ∨ k = 3 ∨ k = 4 ∨ k = 5 ∨ k = 6 ∨ k = 7 := by omega
  all_goals decide +kernel

def fewB (n : Int) : Bool := decide (0 ≤ n ∧ n ≤ 1099511627776)

theorem few_any (n : Int) (w : World) : Calls Try.prog 104 #[.int .i64 n] w fun e w' => e = .returned (.bool (fewB n)) ∧ w = w' := by
  by_cases h1 : 0 ≤ n
  · by_cases h2 : n ≤ 1099511627776
    · go_enter Try.func104, Try.ntmps104
      go_wp2_with fail
      go_ret
      exact ⟨ret_bool (by unfold fewB; simp; omega), rfl⟩
    · go_enter Try.func104, Try.ntmps104
      go_wp2_with fail
      go_ret
      exact ⟨ret_bool (by unfold fewB; simp; omega), rfl⟩
  · go_enter Try.func104, Try.ntmps104
    go_wp2_with fail
    go_ret
    exact ⟨ret_bool (by unfold fewB; simp; omega), rfl⟩

def xOk (x : List Int) : Bool := decide (x.length ≤ 8) && x.all fun z => decide (-2147483648 ≤ z ∧ z ≤ 2147483647)

/-- What is asked is right. -/
def askB (k id n m : Int) (x : List Int) : Bool := decide (1 ≤ k ∧ k ≤ 7) && fewB id && fewB n && fewB m && xOk x && (decide (k = 1 ∨ id = 0) && decide (k = 1 ∨ k = 2 ∨ k = 7 ∨ x.length = 0) && decide (k = 3 ∨ k = 4 ∨ n = 0) && decide (k = 3 ∨ m = 0))

theorem xOk_vec {x : List Int} : xOk x = (decide (x.length = 0) || vecB x x.length) := by
  have e : (fun z : Int => decide (-2147483648 ≤ z ∧ z ≤ 2147483647)) = fun z => (decide (-2147483648 ≤ z) && decide (z ≤ 2147483647)) := by
    funext z
    rw [Bool.decide_and]
  unfold xOk vecB
  rw [e]
  cases x with
  | nil => rfl
  | cons y x =>
    rw [decide_eq_false (p := (y :: x).length = 0) (by simp), Bool.false_or, decide_eq_true (p := (1 : Int) ≤ ((y :: x).length : Int)) (by simp; omega), decide_eq_true (p := (((y :: x).length : Int) = ((y :: x).length : Int))) rfl, Bool.true_and, Bool.and_true]
    congr 1
    by_cases h : (y :: x).length ≤ 8
    · rw [decide_eq_true h, decide_eq_true (by omega)]
    · rw [decide_eq_false h, decide_eq_false (by omega)]

def askV (k id n m : Int) (vx : Value) : Value := .agg #[.int .i64 k, .int .i64 id, vx, .int .i64 n, .int .i64 m]

set_option maxRecDepth 100000 in
set_option maxHeartbeats 8000000 in
theorem rightAsk_any (k id n m : Int) (vx : Value) (x : List Int) (w : World) (h : Ints .i64 w vx x) :
    Calls Try.prog 37 #[.agg #[.int .i64 k, .int .i64 id, vx, .int .i64 n, .int .i64 m]] w fun e w' => e = .returned (.bool (askB k id n m x)) ∧ Below w.heap.size w w' := by
  have HX := Lib.hid h
  obtain ⟨xa, xc, rfl⟩ := h.shape
  have HN := Lib.hid (fun W => names_any k W)
  have H1 := Lib.hid (fun W => few_any id W)
  have H2 := Lib.hid (fun W => few_any n W)
  have H3 := Lib.hid (fun W => few_any m W)
  have HV := Lib.hid (fun W (hW : Ints .i64 W (.slice xa x.length xc) x) => vis_any _ x x.length W hW)
  have HR := Lib.hid (show askB k id n m x = (decide (1 ≤ k ∧ k ≤ 7) && fewB id && fewB n && fewB m && (decide (x.length = 0) || vecB x x.length) && (decide (k = 1 ∨ id = 0) && decide (k = 1 ∨ k = 2 ∨ k = 7 ∨ x.length = 0) && decide (k = 3 ∨ k = 4 ∨ n = 0) && decide (k = 3 ∨ m = 0))) by
    unfold askB
    rw [xOk_vec])
  generalize askB k id n m x = R at *
  generalize vecB x x.length = V at *
  generalize fewB id = F1 at *
  generalize fewB n = F2 at *
  generalize fewB m = F3 at *
  clear h
  generalize x.length = len at *
  by_cases hk : 1 ≤ k ∧ k ≤ 7
  · rw [decide_eq_true hk] at HN HR
    generalize hW : whatI k = WH at *
    cases F1 with
    | false =>
      have HR2 := Lib.hid (show R = false by rw [HR.out]; rfl)
      clear HR hW hk
      go_enter Try.func37, Try.ntmps37
      go_wp2_with fail
      (with_reducible refine (HN.out _).mono ?_)
      rintro e w1 ⟨rfl, rfl⟩
      go_wp2_with fail
      (with_reducible refine (H1.out _).mono ?_)
      rintro e w1 ⟨rfl, rfl⟩
      go_wp2_with fail
      go_ret
      exact ⟨ret_bool HR2.out.symm, by (repeat (first | with_reducible exact Below.refl _ _ | with_reducible refine Bs ?_ | with_reducible refine Ba ?_ | with_reducible refine Bd ?_ | with_reducible refine Bn ?_))⟩
    | true =>
      cases F2 with
      | false =>
        have HR2 := Lib.hid (show R = false by rw [HR.out]; rfl)
        clear HR hW hk
        go_enter Try.func37, Try.ntmps37
        go_wp2_with fail
        (with_reducible refine (HN.out _).mono ?_)
        rintro e w1 ⟨rfl, rfl⟩
        go_wp2_with fail
        (with_reducible refine (H1.out _).mono ?_)
        rintro e w1 ⟨rfl, rfl⟩
        go_wp2_with fail
        (with_reducible refine (H2.out _).mono ?_)
        rintro e w1 ⟨rfl, rfl⟩
        go_wp2_with fail
        go_ret
        exact ⟨ret_bool HR2.out.symm, by (repeat (first | with_reducible exact Below.refl _ _ | with_reducible refine Bs ?_ | with_reducible refine Ba ?_ | with_reducible refine Bd ?_ | with_reducible refine Bn ?_))⟩
      | true =>
        cases F3 with
        | false =>
          have HR2 := Lib.hid (show R = false by rw [HR.out]; rfl)
          clear HR hW hk
          go_enter Try.func37, Try.ntmps37
          go_wp2_with fail
          (with_reducible refine (HN.out _).mono ?_)
          rintro e w1 ⟨rfl, rfl⟩
          go_wp2_with fail
          (with_reducible refine (H1.out _).mono ?_)
          rintro e w1 ⟨rfl, rfl⟩
          go_wp2_with fail
          (with_reducible refine (H2.out _).mono ?_)
          rintro e w1 ⟨rfl, rfl⟩
          go_wp2_with fail
          (with_reducible refine (H3.out _).mono ?_)
          rintro e w1 ⟨rfl, rfl⟩
          go_wp2_with fail
          go_ret
          exact ⟨ret_bool HR2.out.symm, by (repeat (first | with_reducible exact Below.refl _ _ | with_reducible refine Bs ?_ | with_reducible refine Ba ?_ | with_reducible refine Bd ?_ | with_reducible refine Bn ?_))⟩
        | true =>
          by_cases hl : len = 0
          · subst hl
            have HR2 := Lib.hid (show R = (decide (k = 1 ∨ id = 0) && decide (k = 3 ∨ k = 4 ∨ n = 0) && decide (k = 3 ∨ m = 0)) by rw [HR.out]; simp)
            clear HR
            obtain rfl | rfl | rfl | rfl | rfl | rfl | rfl : k = 1 ∨ k = 2 ∨ k = 3 ∨ k = 4 ∨ k = 5 ∨ k = 6 ∨ k = 7 := by omega
            all_goals
              obtain rfl := hW
              obtain ⟨q1, q2, q3, q4⟩ := bits_what hk
              clear hk
              simp only [whatI] at HN
              simp [whatI] at q1 q2 q3 q4
              go_enter Try.func37, Try.ntmps37
              go_wp2_with fail
              (with_reducible refine (HN.out _).mono ?_)
              rintro e w1 ⟨rfl, rfl⟩
              go_wp2_with fail
              (with_reducible refine (H1.out _).mono ?_)
              rintro e w1 ⟨rfl, rfl⟩
              go_wp2_with fail
              (with_reducible refine (H2.out _).mono ?_)
              rintro e w1 ⟨rfl, rfl⟩
              go_wp2_with fail
              (with_reducible refine (H3.out _).mono ?_)
              rintro e w1 ⟨rfl, rfl⟩
              go_wp2_with fail
              all_goals
                go_ret
                refine ⟨ret_bool ?_, by (repeat (first | with_reducible exact Below.refl _ _ | with_reducible refine Bs ?_ | with_reducible refine Ba ?_ | with_reducible refine Bd ?_ | with_reducible refine Bn ?_))⟩
                rw [HR2.out]
                first | (simp [*]; done) | (simp [*]; rfl)
          · cases V with
            | false =>
              have HR2 := Lib.hid (show R = false by rw [HR.out, decide_eq_false hl]; rfl)
              have hl2 : 0 < len := by omega
              clear HR hW hk hl
              go_enter Try.func37, Try.ntmps37
              go_wp2_with fail
              (with_reducible refine (HN.out _).mono ?_)
              rintro e w1 ⟨rfl, rfl⟩
              go_wp2_with fail
              (with_reducible refine (H1.out _).mono ?_)
              rintro e w1 ⟨rfl, rfl⟩
              go_wp2_with fail
              (with_reducible refine (H2.out _).mono ?_)
              rintro e w1 ⟨rfl, rfl⟩
              go_wp2_with fail
              (with_reducible refine (H3.out _).mono ?_)
              rintro e w1 ⟨rfl, rfl⟩
              go_wp2_with fail
              (with_reducible refine (HV.out _ (HX.out.below (by (repeat (first | with_reducible exact Below.refl _ _ | with_reducible refine Bs ?_ | with_reducible refine Ba ?_ | with_reducible refine Bd ?_ | with_reducible refine Bn ?_))))).mono ?_)
              rintro e w2 ⟨rfl, rfl⟩
              go_wp2_with fail
              go_ret
              exact ⟨ret_bool HR2.out.symm, by (repeat (first | with_reducible exact Below.refl _ _ | with_reducible refine Bs ?_ | with_reducible refine Ba ?_ | with_reducible refine Bd ?_ | with_reducible refine Bn ?_))⟩
            | true =>
              have HR2 := Lib.hid (show R = (decide (k = 1 ∨ id = 0) && decide (k = 1 ∨ k = 2 ∨ k = 7) && decide (k = 3 ∨ k = 4 ∨ n = 0) && decide (k = 3 ∨ m = 0)) by rw [HR.out, decide_eq_false hl]; simp [hl])
              have hl2 : 0 < len := by omega
              clear HR hl
              obtain rfl | rfl | rfl | rfl | rfl | rfl | rfl : k = 1 ∨ k = 2 ∨ k = 3 ∨ k = 4 ∨ k = 5 ∨ k = 6 ∨ k = 7 := by omega
              all_goals
                obtain rfl := hW
                obtain ⟨q1, q2, q3, q4⟩ := bits_what hk
                clear hk
                simp only [whatI] at HN
                simp [whatI] at q1 q2 q3 q4
                go_enter Try.func37, Try.ntmps37
                go_wp2_with fail
                (with_reducible refine (HN.out _).mono ?_)
                rintro e w1 ⟨rfl, rfl⟩
                go_wp2_with fail
                (with_reducible refine (H1.out _).mono ?_)
                rintro e w1 ⟨rfl, rfl⟩
                go_wp2_with fail
                (with_reducible refine (H2.out _).mono ?_)
                rintro e w1 ⟨rfl, rfl⟩
                go_wp2_with fail
                (with_reducible refine (H3.out _).mono ?_)
                rintro e w1 ⟨rfl, rfl⟩
                go_wp2_with fail
                (with_reducible refine (HV.out _ (HX.out.below (by (repeat (first | with_reducible exact Below.refl _ _ | with_reducible refine Bs ?_ | with_reducible refine Ba ?_ | with_reducible refine Bd ?_ | with_reducible refine Bn ?_))))).mono ?_)
                rintro e w2 ⟨rfl, rfl⟩
                go_wp2_with fail
                all_goals
                  go_ret
                  refine ⟨ret_bool ?_, by (repeat (first | with_reducible exact Below.refl _ _ | with_reducible refine Bs ?_ | with_reducible refine Ba ?_ | with_reducible refine Bd ?_ | with_reducible refine Bn ?_))⟩
                  rw [HR2.out]
                  first | (simp [*]; done) | (simp [*]; rfl)
  · rw [decide_eq_false hk] at HN HR
    have HR2 := Lib.hid (show R = false by rw [HR.out]; rfl)
    clear hk HR
    go_enter Try.func37, Try.ntmps37
    go_wp2_with fail
    (with_reducible refine (HN.out _).mono ?_)
    rintro e w1 ⟨rfl, rfl⟩
    go_wp2_with fail
    go_ret
    exact ⟨ret_bool HR2.out.symm, by (repeat (first | with_reducible exact Below.refl _ _ | with_reducible refine Bs ?_ | with_reducible refine Ba ?_ | with_reducible refine Bd ?_ | with_reducible refine Bn ?_))⟩
end Go.Proofs.Ytjmjnkilgoelbaa
