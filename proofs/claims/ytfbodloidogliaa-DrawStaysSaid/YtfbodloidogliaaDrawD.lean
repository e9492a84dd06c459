/-
  Walks: the draws between two places; equal lists of draws.
-/
import Derived.Test.YtfbodloidogliaaDrawC
import Derived.Test.YtfbodloidogliaaFrame
import Derived.Lib.SliceRun
namespace Go.Proofs.Ytfbodloidogliaa
open Go.RowKit

theorem eiU64 : EI Try.prog 39 (.int .u64 0) 1 8 := .of (by kernel_rfl) rfl (by decide) (by decide)

set_option maxRecDepth 100000 in
set_option maxHeartbeats 1000000 in
theorem clone_empty (ad : Addr) (c : Nat) (w : World) :
    Calls Try.prog 84 #[.slice (some ad) 0 c] w fun e w' => ∃ v, e = .returned v ∧ Ints .u64 w' v [] ∧ Below w.heap.size w w' := by
  have q : ∀ (w : World) (a : Option Addr) (n c n' c' : Nat), (binOp .eql 38 (.slice a n c) (.slice none n' c')).run Try.prog w = .ok (.bool a.isNone) w := fun w a n c n' c' => Lib.run_eql_slice_nil w _ _ a n c n' c' Try.underlying38
  obtain ⟨i, hi, hz, hsize, hby, hzs, hsz, hbp⟩ := eiU64
  have HI := Lib.hid hi; clear hi
  have HZ := Lib.hid hz; clear hz
  have HS := Lib.hid hsize; clear hsize
  have HB := Lib.hid hby; clear hby
  go_enter Try.func84, Try.ntmps84
  go_wp2_with (at_builtin; go_must (refine wpList_append_own _ rfl _ _ 38 rfl w.heap.size 39 i _ 1 8 Try.underlying38 HI.out HZ.out HS.out HB.out rfl (by decide) _ _ _ (by rfl) (World.ownsRow_made w #[] 0 (Nat.le_refl _) (Nat.zero_le _) (by simp)) ad 0 c [] (by rfl) rfl (by intro j u h; simp at h) (by intro u h; simp at h) (by simp) (by simp) (by simp) ?_))
  intro v' w' hown hg _
  have hi0 : Ints .u64 w' v' [] := (Ints.own (k := .u64) (l := []) hown (by simp)).2
  have hb : Below w.heap.size w w' := ((Below.refl _ _).alloc (Nat.le_refl _) _).grown hg (by simp) (by simp [Value.ownBlock])
  have HI0 := Lib.hid hi0
  clear hown hg hi0
  go_wp2
  go_ret
  exact ⟨v', rfl, HI0.out, hb⟩

theorem clone_any (v : Value) (l : List Int) (w : World) (h : Ints .u64 w v l) (hl : l.length ≤ 1000000) :
    Calls Try.prog 84 #[v] w fun e w' => ∃ v', e = .returned v' ∧ Ints .u64 w' v' l ∧ Below w.heap.size w w' := by
  obtain ⟨a, c, rfl, h1, h2, h3, h4⟩ := h
  rcases a with _ | ad
  · have hl0 : l = [] := by
      cases l with
      | nil => rfl
      | cons x l => obtain ⟨b, o, e, _⟩ := h4 0 x rfl; cases e
    subst hl0
    exact (Try.slices_Clone_nil _ c w).mono fun e w' ⟨h1, h2⟩ => ⟨_, h1, h2 ▸ ⟨none, 0, rfl, by simp, by omega, by simp, fun i x h => by simp at h⟩, h2 ▸ Below.refl _ _⟩
  · rcases Nat.eq_zero_or_pos l.length with h0 | h0
    · have hl0 := List.eq_nil_of_length_eq_zero h0
      subst hl0
      exact clone_empty ad c w
    · obtain ⟨i, hi, hz, hsize, hby, hzs, hsz, hbp⟩ := eiU64
      obtain ⟨x, hx⟩ := getElem?_ex h0
      obtain ⟨b, o, e, hb, _⟩ := h4 0 x hx
      injection e with e
      subst e
      have hcl := Try.slices_Clone i _ 1 8 hi hz hsize hby hzs (by decide) (fun w => Try.sizeOf39 w) b o l.length c (l.map (.int .u64)) w (by simp) (by unfold maxLen; omega) (by omega) (fun j u hj => by
        rw [List.getElem?_map] at hj
        cases hy : l[j]? with
        | none => rw [hy] at hj; cases hj
        | some y =>
          rw [hy] at hj
          obtain ⟨b', o', e', _, hc⟩ := h4 j y hy
          simp at e' hj
          obtain ⟨rfl, rfl⟩ := e'
          rw [← hj]; exact hc) (fun u hu => by simp at hu; obtain ⟨y, _, rfl⟩ := hu; rfl)
      exact hcl.mono fun e w' ⟨v', h1, h2, _, h4⟩ => ⟨v', h1, (Ints.own h2 (by omega)).2, h4⟩

/-- The draws from one place on to another one. -/
def usedL (l : List Int) (a b : Int) : List Int := if a < 0 ∨ b < a ∨ (l.length : Int) < b then [] else (l.drop a.toNat).take (b - a).toNat

theorem Ints.cutAt {k : IntKind} {w : World} {ad : Option Addr} {n c : Nat} {l : List Int} (h : Ints k w (.slice ad n c) l) {i m : Nat} (hi : i + m ≤ l.length) {ad' : Option Addr} (c' : Nat) (hc : m ≤ c') (hc2 : c' ≤ 9223372036854775807)
    (ha : m ≠ 0 → ∀ b o, ad = some ⟨b, o, none⟩ → ad' = some ⟨b, o + i, none⟩) : Ints k w (.slice ad' m c') ((l.drop i).take m) := by
  obtain ⟨a0, c0, e, h1, h2, h3, h4⟩ := h
  injection e with e1 e2 e3
  subst e1 e2 e3
  have hlen : ((l.drop i).take m).length = m := by simp; omega
  refine ⟨ad', c', by rw [hlen], by omega, hc2, by omega, fun j x hj => ?_⟩
  have hjm : j < m := by have := (List.getElem?_eq_some_iff.1 hj).1; omega
  rw [List.getElem?_take, if_pos hjm, List.getElem?_drop] at hj
  obtain ⟨b, o, e, hb, hc⟩ := h4 (i + j) x hj
  exact ⟨b, o + i, ha (by omega) b o e, hb, by rw [Nat.add_assoc]; exact hc⟩

set_option maxRecDepth 100000 in
set_option maxHeartbeats 1000000 in
theorem used_any (v : Value) (l : List Int) (a b : Int) (w : World) (h : Ints .u64 w v l) (hl : l.length ≤ 1000000) :
    Calls Try.prog 29 #[v, .int .i64 a, .int .i64 b] w fun e w' => ∃ v', e = .returned v' ∧ Ints .u64 w' v' (usedL l a b) ∧ Below w.heap.size w w' := by
  by_cases hb : a < 0 ∨ b < a ∨ (l.length : Int) < b
  · have hu : usedL l a b = [] := if_pos hb
    rw [hu]
    obtain ⟨ad, c, rfl⟩ := h.shape
    have hc : a < 0 ∨ (¬ a < 0 ∧ b < a) ∨ (¬ a < 0 ∧ ¬ b < a ∧ (l.length : Int) < b) := by omega
    clear hb hu h
    rcases hc with h1 | ⟨h1, h2⟩ | ⟨h1, h2, h3⟩
    all_goals
      go_enter Try.func29, Try.ntmps29
      go_wp2
      go_ret
      exact ⟨_, rfl, ⟨none, 0, rfl, by simp, by omega, by simp, fun i x h => by simp at h⟩, Below.refl _ _⟩
  · have hu : usedL l a b = (l.drop a.toNat).take (b - a).toNat := if_neg hb
    rw [hu]
    have h' := h
    obtain ⟨ad, c, rfl, g1, g2, g3, _⟩ := h
    obtain ⟨i, rfl⟩ := Int.eq_ofNat_of_zero_le (show 0 ≤ a by omega)
    obtain ⟨j, rfl⟩ := Int.eq_ofNat_of_zero_le (show 0 ≤ b by omega)
    have hij : (i : Int) ≤ (j : Int) := by omega
    have hjl : (j : Int) ≤ (l.length : Int) := by omega
    have HI := Lib.hid h'
    clear h' hu hb
    go_enter Try.func29, Try.ntmps29
    go_wp2_with fail
    all_goals
      · refine (clone_any _ ((l.drop i).take (j - i)) w (HI.out.cutAt (by omega) _ (by omega) (by omega) (fun hm b o e => by first | (exfalso; omega) | (subst e; simp [Addr.add]))) (by simp; omega)).mono ?_
        rintro e w' ⟨v', rfl, h1, h2⟩
        have H1 := Lib.hid h1
        have H2 := Lib.hid h2
        clear h1 h2
        go_wp2
        go_ret
        exact ⟨_, rfl, by simpa using H1.out, H2.out⟩

set_option maxHeartbeats 400000 in
theorem same06_any (va vb : Value) (la lb : List Int) (w : World) (ha : Ints .u64 w va la) (hb : Ints .u64 w vb lb) :
    Calls Try.prog 30 #[va, vb] w fun e w' => e = .returned (.bool (decide (la = lb))) ∧ ∃ n, w' = w.drewN n := by
  obtain ⟨a, c, rfl, _, _, h3, ha⟩ := ha
  obtain ⟨b, d, rfl, _, _, h3', hb⟩ := hb
  have HA := Lib.hid ha; clear ha
  have HB := Lib.hid hb; clear hb
  obtain ⟨m, hm⟩ : ∃ m, lb.length = m := ⟨_, rfl⟩
  rw [hm] at h3' ⊢
  have HM := Lib.hid hm; clear hm
  by_cases hl : la.length = m
  · obtain rfl := hl
    have hb : ((la.length : Int) != la.length) = false := by simp
    go_enter Try.func30, Try.ntmps30
    go_wp2
    go_loopw [5] (fun i wr => ∃ k : Nat, k ≤ la.length ∧ i = .int .i64 k ∧ (la.take k = lb.take k) ∧ ∃ n, wr = w.drewN n) (fun i _ => la.length - (intOf i).toNat)
    case atStart => exact ⟨0, Nat.zero_le _, rfl, rfl, 0, rfl⟩
    case round =>
      obtain ⟨k, hk, rfl, hpre, n, rfl⟩ := hrel
      have HP := Lib.hid hpre; clear hpre
      by_cases hlt : k < la.length
      · obtain ⟨x, hx⟩ := getElem?_ex hlt
        obtain ⟨y, hy⟩ := getElem?_ex (l := lb) (k := k) (by rw [HM.out]; exact hlt)
        obtain ⟨b1, o1, rfl, hb1, hc1⟩ := HA.out k x hx
        obtain ⟨b2, o2, rfl, hb2, hc2⟩ := HB.out k y hy
        have HX := Lib.hid hx; clear hx
        have HY := Lib.hid hy; clear hy
        go_wp2
        go_quiet (fail)
        go_wp2
        · go_ret
          have hne : (x != y) = true := by assumption
          refine ⟨ret_bool ?_, _, World.drewN_drewN _ _ _⟩
          symm; rw [decide_eq_false_iff_not]; rintro rfl
          have := HX.out.symm.trans HY.out
          simp_all
        · have hne : (x != y) = false := by assumption
          have : x = y := by simpa using hne
          subst this
          go_roundw
          case rel => exact ⟨k + 1, by omega, by go_num, take_step HX.out HY.out HP.out, _, rfl⟩
          case measure => simp [intOf] <;> omega
      · go_wp2
        go_ret
        refine ⟨ret_bool ?_, _, rfl⟩
        have hp := HP.out
        rw [List.take_of_length_le (by omega), List.take_of_length_le (by rw [HM.out]; omega)] at hp
        simp [hp]
  · have hb : ((la.length : Int) != m) = true := by simp; omega
    go_enter Try.func30, Try.ntmps30
    go_wp2
    go_ret
    refine ⟨ret_bool ?_, 0, rfl⟩
    symm; rw [decide_eq_false_iff_not]; rintro rfl
    exact hl HM.out
end Go.Proofs.Ytfbodloidogliaa
