/-
  Walks of package num: sums of products.
-/
import Derived.Test.YtfbodloidogliaaNumS
namespace Go.Proofs.Ytfbodloidogliaa
open Go.RowKit

def dotZ (a b : List Int) : Int := sumZ (List.zipWith (· * ·) a b)

theorem zip_get {a b : List Int} {k : Nat} {x y : Int} (hx : a[k]? = some x) (hy : b[k]? = some y) : (List.zipWith (· * ·) a b)[k]? = some (x * y) := by
  rw [List.getElem?_zipWith]; simp [hx, hy]

theorem mul_bd {x y : Int} (hx : Ok64 x) (hy : Ok64 y) : (x * y).natAbs ≤ 85070591730234615865843651857942052864 := by
  rw [Int.natAbs_mul]
  have h1 : x.natAbs ≤ 9223372036854775808 := by unfold Ok64 at hx; omega
  have h2 : y.natAbs ≤ 9223372036854775808 := by unfold Ok64 at hy; omega
  exact Nat.le_trans (Nat.mul_le_mul h1 h2) (by decide)

theorem dot_bd : ∀ {a b : List Int}, All64 a → All64 b → -(85070591730234615865843651857942052864 * (a.length : Int)) ≤ dotZ a b ∧ dotZ a b ≤ 85070591730234615865843651857942052864 * (a.length : Int) := by
  intro a
  induction a with
  | nil => intro b _ _; simp [dotZ, sumZ]
  | cons x a ih =>
    intro b ha hb
    cases b with
    | nil => simp [dotZ, sumZ]; omega
    | cons y b =>
      have h1 := mul_bd (ha x (by simp)) (hb y (by simp))
      obtain ⟨h2, h3⟩ := ih (fun z hz => ha z (by simp [hz])) (fun z hz => hb z (by simp [hz]) : All64 b)
      unfold dotZ at *
      simp only [List.zipWith_cons_cons, sumZ, List.length_cons]
      omega

theorem dot_plus (z x y : Int) (hx : Ok64 x) (hy : Ok64 y) (W : World) (hi lo : Int) (hhi : hi = ((x.natAbs * y.natAbs / 18446744073709551616 : Nat) : Int)) (hlo : lo = ((x.natAbs * y.natAbs % 18446744073709551616 : Nat) : Int)) :
    Calls Try.prog 75 #[longV z, .int .u64 hi, .int .u64 lo, .bool (!decide (x < 0) == decide (y < 0))] W fun e w' => e = .returned (longV (z + x * y)) ∧ Below W.heap.size W w' := by
  have hp : x.natAbs * y.natAbs ≤ 85070591730234615865843651857942052864 := by
    have := mul_bd hx hy; rwa [Int.natAbs_mul] at this
  obtain ⟨p, hpp⟩ : ∃ p, x.natAbs * y.natAbs = p := ⟨_, rfl⟩
  rw [hpp] at hp hhi hlo
  by_cases hs : (!decide (x < 0) == decide (y < 0)) = true
  · have hv := mul_neg hs
    rw [hpp] at hv
    rw [hs]
    have := plus_no z hi lo W (by omega) (by omega) (by omega) (by omega)
    rwa [show z - (hi * 18446744073709551616 + lo) = z + x * y by omega] at this
  · have hs' : (!decide (x < 0) == decide (y < 0)) = false := by simpa using hs
    have hv := mul_pos' hs'
    rw [hpp] at hv
    rw [hs']
    have := plus_yes z hi lo W (by omega) (by omega) (by omega) (by omega)
    rwa [show z + (hi * 18446744073709551616 + lo) = z + x * y by omega] at this

set_option maxRecDepth 100000 in
set_option maxHeartbeats 1000000 in
theorem dot_any (va vb : Value) (la lb : List Int) (w : World) (ha : Ints .i64 w va la) (hb : Ints .i64 w vb lb) (hla : All64 la) (hlb : All64 lb) (hlen : la.length ≤ 1000000) :
    Calls Try.prog 18 #[va, vb] w fun e w' => e = .returned (.tuple #[.int .i64 (if la.length = lb.length then fitV (dotZ la lb) else 0), .int .i64 (if la.length = lb.length then fitE (dotZ la lb) else 1)]) ∧ Below w.heap.size w w' := by
  obtain ⟨aa, ca, rfl, _, _, h3, hA⟩ := ha
  obtain ⟨ab, cb, rfl, _, _, h3', hB⟩ := hb
  have HA := Lib.hid hA; clear hA
  have HB := Lib.hid hB; clear hB
  have HLA := Lib.hid hla; clear hla
  have HLB := Lib.hid hlb; clear hlb
  obtain ⟨q, hq⟩ : ∃ q, lb.length = q := ⟨_, rfl⟩
  rw [hq] at h3' ⊢
  have HQ := Lib.hid hq; clear hq
  by_cases hl : la.length = q
  · have hpost : ∀ (e : Ending) w', (e = .returned (.tuple #[.int .i64 (fitV (dotZ la lb)), .int .i64 (fitE (dotZ la lb))]) ∧ Below w.heap.size w w') → (e = .returned (.tuple #[.int .i64 (if la.length = q then fitV (dotZ la lb) else 0), .int .i64 (if la.length = q then fitE (dotZ la lb) else 1)]) ∧ Below w.heap.size w w') := fun e w' h => by rw [if_pos hl, if_pos hl]; exact h
    refine Calls.mono ?_ hpost
    clear hpost
    obtain rfl := hl
    have hb : ((la.length : Int) != la.length) = false := by simp
    go_enter Try.func18, Try.ntmps18
    go_wp2
    go_loopw [18] (fun i wr => ∃ (k : Nat) (z : Int), i = .int .i64 k ∧ k ≤ la.length ∧ dotZ (la.take k) (lb.take k) = z ∧ wr.cell? ⟨w.heap.size, 0, none⟩ = some (.int .u64 (z % 18446744073709551616)) ∧ wr.cell? ⟨w.heap.size, 1, none⟩ = some (.int .u64 (z / 18446744073709551616 % 18446744073709551616)) ∧ wr.cell? ⟨w.heap.size, 2, none⟩ = some (.int .u64 (z / 340282366920938463463374607431768211456 % 18446744073709551616)) ∧ wr.frozen? ⟨w.heap.size, 0, none⟩ = false ∧ wr.frozen? ⟨w.heap.size, 1, none⟩ = false ∧ wr.frozen? ⟨w.heap.size, 2, none⟩ = false ∧ w.heap.size < wr.heap.size ∧ Below w.heap.size w wr) (fun i _ => la.length - (intOf i).toNat)
    case atStart => exact ⟨0, 0, rfl, by omega, rfl, by simp, by simp, by simp, by simp, by simp, by simp, by simp, (Below.refl _ _).alloc (Nat.le_refl _) _⟩
    case round =>
      obtain ⟨k, z, rfl, hk, hz, c0, c1, c2, f0, f1, f2, hsz, hb⟩ := hrel
      have HZ := Lib.hid hz; clear hz
      by_cases hlt : k < la.length
      · obtain ⟨x, hx⟩ := getElem?_ex hlt
        obtain ⟨y, hy⟩ := getElem?_ex (l := lb) (k := k) (by rw [HQ.out]; exact hlt)
        obtain ⟨b1, o1, rfl, hb1, hc1⟩ := HA.out k x hx
        obtain ⟨b2, o2, rfl, hb2, hc2⟩ := HB.out k y hy
        have hx64 := HLA.out x (List.mem_of_getElem? hx)
        have hy64 := HLB.out y (List.mem_of_getElem? hy)
        have cx := (hb.cell (p := ⟨b1, o1 + k, none⟩) hb1).trans hc1
        have cy := (hb.cell (p := ⟨b2, o2 + k, none⟩) hb2).trans hc2
        have HX := Lib.hid hx; clear hx hc1
        have HY := Lib.hid hy; clear hy hc2
        have hm := fun W => Try.bits_Mul64 x.natAbs y.natAbs (by have := hx64.1; have := hx64.2; omega) (by have := hy64.1; have := hy64.2; omega) W
        obtain ⟨hi, hhi⟩ : ∃ hi : Int, ((x.natAbs * y.natAbs / 18446744073709551616 : Nat) : Int) = hi := ⟨_, rfl⟩
        obtain ⟨lo, hlo⟩ : ∃ lo : Int, ((x.natAbs * y.natAbs % 18446744073709551616 : Nat) : Int) = lo := ⟨_, rfl⟩
        have hpl := fun W => dot_plus z x y hx64 hy64 W hi lo hhi.symm hlo.symm
        simp only [hhi, hlo] at hm
        clear hhi hlo
        have HM := Lib.hid hm; clear hm
        obtain ⟨t, ht⟩ : ∃ t, z + x * y = t := ⟨_, rfl⟩
        rw [ht] at hpl
        have HT := Lib.hid ht; clear ht
        unfold longV at hpl
        have HPL := Lib.hid hpl; clear hpl
        go_wp2
        go_quiet ((first | (go_at_call 76; exact quiet_left (size_any _ _ (by assumption))) | (go_at_call 81; exact Calls.quiet_of_same (HM.out _))))
        go_wp2
        have hbq : Below w.heap.size w (wr.drewN nq) := below_drewN hb nq
        obtain ⟨W2, hW2⟩ : ∃ W2, wr.drewN nq = W2 := ⟨_, rfl⟩
        have C : W2.cell? ⟨w.heap.size, 0, none⟩ = some (.int .u64 (z % 18446744073709551616)) ∧ W2.cell? ⟨w.heap.size, 1, none⟩ = some (.int .u64 (z / 18446744073709551616 % 18446744073709551616)) ∧ W2.cell? ⟨w.heap.size, 2, none⟩ = some (.int .u64 (z / 340282366920938463463374607431768211456 % 18446744073709551616)) ∧ W2.frozen? ⟨w.heap.size, 0, none⟩ = false ∧ W2.frozen? ⟨w.heap.size, 1, none⟩ = false ∧ W2.frozen? ⟨w.heap.size, 2, none⟩ = false ∧ w.heap.size < W2.heap.size ∧ W2.cell? ⟨b1, o1 + k, none⟩ = some (.int .i64 x) ∧ W2.cell? ⟨b2, o2 + k, none⟩ = some (.int .i64 y) := by
          subst hW2; exact ⟨c0, c1, c2, f0, f1, f2, hsz, cx, cy⟩
        rw [hW2] at hbq ⊢
        clear c0 c1 c2 f0 f1 f2 hsz cx cy hb hW2
        obtain ⟨c0, c1, c2, f0, f1, f2, hsz, cx, cy⟩ := C
        go_still_tail 11, (by kernel_rfl)
        go_wp2_with (go_at_call 75; refine (HPL.out _).mono ?_; rintro e w1 ⟨rfl, hbw⟩; have d0 := (hbw.cell (p := ⟨w.heap.size, 0, none⟩) hsz).trans c0; have d1 := (hbw.cell (p := ⟨w.heap.size, 1, none⟩) hsz).trans c1; have d2 := (hbw.cell (p := ⟨w.heap.size, 2, none⟩) hsz).trans c2; have g0 := (hbw.frozen (p := ⟨w.heap.size, 0, none⟩) hsz).trans f0; have g1 := (hbw.frozen (p := ⟨w.heap.size, 1, none⟩) hsz).trans f1; have g2 := (hbw.frozen (p := ⟨w.heap.size, 2, none⟩) hsz).trans f2; clear c0 c1 c2 f0 f1 f2)
        have hz1 : w.heap.size < w1.heap.size := Nat.lt_of_lt_of_le hsz hbw.size
        have hb2 : Below w.heap.size w w1 := hbq.trans (Below.trans (Below.drew (Below.refl _ _)) (hbw.mono (Nat.le_of_lt hsz)))
        clear hbw
        go_roundw
        case rel =>
          refine ⟨k + 1, t, by go_num, by omega, by unfold dotZ at *; rw [take_snoc' HX.out, take_snoc' HY.out, List.zipWith_append (by simp [HQ.out]), sumZ_append, HZ.out, ← HT.out]; simp [sumZ], by go_simp, by go_simp, by go_simp, by go_simp, by go_simp, by go_simp, by simp [World.setCell]; exact hz1, ?_⟩
          exact ((hb2.setCell (Nat.le_refl _) _).setCell (Nat.le_refl _) _).setCell (Nat.le_refl _) _
        case measure => simp [intOf] <;> omega
      · obtain rfl : k = la.length := by omega
        have hfin : dotZ la lb = z := by rw [← HZ.out, List.take_length, List.take_of_length_le (by rw [HQ.out]; omega)]
        have hnr : Near z := by
          have := dot_bd HLA.out HLB.out
          rw [hfin] at this
          unfold Near; omega
        have hfit := fun W => lfits_any z W hnr
        unfold longV at hfit
        have HF := Lib.hid hfit
        have HFI := Lib.hid hfin
        clear hfit hfin hnr
        go_wp2_with (go_at_call 77; refine (HF.out _).mono ?_; rintro e w1 ⟨rfl, hbw⟩)
        go_ret2
        rw [HFI.out]
        exact ⟨rfl, hb.trans (hbw.mono (Nat.le_of_lt hsz))⟩
  · have hb : ((la.length : Int) != q) = true := by simp; omega
    have HN : Hid (¬ la.length = q) := hl
    go_enter Try.func18, Try.ntmps18
    go_wp2
    go_ret2
    exact ⟨rfl, Below.refl _ _⟩
end Go.Proofs.Ytfbodloidogliaa
