/-
  Walk of pick.Back.
-/
import Derived.Test.YtoljilbldkbjpaaPickB
namespace Go.Proofs.Ytoljilbldkbjpaa
open Go.RowKit Go.Maps

/-- A store into a row. -/
theorem wp_put {w : World} {ops : Array Oper} {rest : List Oper} {o : Oper} {a : Act} {Q : Exit → Act → World → Prop}
    (hg : o.guard = none) (m x v : Operand) (t : TypeId) (hop : o.op = Op.mapUpdate t m x v) (ht : Try.prog.underlying t = some (.map 3 3)) (b n : Nat) (f : Nat → Nat)
    (hm : a.eval m = .map (some b)) (h : MapR w b n f) (hn : n ≤ 100000) (k u : Nat) (hx : a.eval x = .int .i64 (k : Int)) (hv : a.eval v = .int .i64 (u : Int)) (hk : k < 100000) (hu : u < 100000)
    (hK : ∀ w', MapR w' b (n + 1) (fun j => if j = k then u else f j) → OnlyB b w w' → wpList Try.prog ops Q rest (a.put o.dst undef) w') :
    wpList Try.prog ops Q (o :: rest) a w := by
  obtain ⟨D, hown, hrow⟩ := h
  have hlt := hown.lt
  have key : keyOf Try.prog 3 (.int .i64 (k : Int)) = some (.int .i64 (k : Int)) := keyOf_int_mk Try.underlying3 (wf_nat (by omega))
  refine wpList_mapUpdate_own _ hg _ _ _ t hop 3 3 lawI ht _ b n _ hm hown (by unfold maxLen; omega) _ _ _ hx hv key _ [] (plainElem_int Try.underlying3 (wf_nat (by omega))) ?_
  intro w1 hown1 hg1
  exact hK w1 ⟨_, hown1, put_row hown.isMap hrow k u⟩ (OnlyB.grown hg1 (by omega))

def bakB (n : Int) (s : List Int) : Bool := (List.range s.length).all fun i => decide ((0 ≤ s.getD i 0 ∧ s.getD i 0 < n) ∧ i ≤ backAt s i)
def backB (n : Int) (s : List Int) : Bool := if playBad n s then false else bakB n s

theorem bakB_true {n : Nat} {s : List Int} : bakB n s = true ↔ BackOk n s s.length := by
  unfold bakB BackOk
  rw [List.all_eq_true]
  constructor
  · intro h i hi
    simpa using h i (List.mem_range.2 hi)
  · intro h i hi
    simpa using h i (List.mem_range.1 hi)

theorem bakB_no {n : Nat} {s : List Int} {i : Nat} (hi : i < s.length) (h : ¬ ((0 ≤ s.getD i 0 ∧ s.getD i 0 < n) ∧ i ≤ backAt s i)) : bakB n s = false := by
  cases hb : bakB n s with
  | false => rfl
  | true => exact absurd (bakB_true.1 hb i hi) h

theorem backB_true {n : Int} {s : List Int} (h : backB n s = true) : (0 ≤ n ∧ n ≤ 256 ∧ (s.length : Int) ≤ n) ∧ BackOk n.toNat s s.length := by
  unfold backB at h
  by_cases hb : playBad n s
  · rw [if_pos hb] at h; cases h
  · rw [if_neg hb] at h
    unfold playBad at hb
    refine ⟨by omega, ?_⟩
    have e : n = (n.toNat : Int) := by omega
    rw [e] at h
    exact bakB_true.1 h

set_option maxRecDepth 100000 in
set_option maxHeartbeats 4000000 in
theorem back_any (n : Int) (v : Value) (s : List Int) (w : World) (h : Ints .i64 w v s) :
    Calls Try.prog 16 #[.int .i64 n, v] w fun e w' => ∃ vo, e = .returned (.tuple #[vo, .bool (backB n s)]) ∧ Ints .i64 w' vo (if backB n s = true then backL s s.length else []) ∧ Below w.heap.size w w' := by
  have HX := Lib.hid h
  obtain ⟨ax, cx, rfl, _, hc2, hl3, hx⟩ := h
  have HC := Lib.hid hx
  have hr := @run_makeMap Try.prog
  have hlb : (s.length : Int) ≤ 9223372036854775807 := by omega
  by_cases hb : playBad n s
  · have hz : backB n s = false := by unfold backB; rw [if_pos hb]
    rw [hz]
    simp only [Bool.false_eq_true, if_false]
    unfold playBad at hb
    clear hx hz hr
    by_cases h1 : n < 0
    · go_enter Try.func16, Try.ntmps16
      go_wp2_with fail
      exact bodyPost_ret (v := .tuple #[.slice none 0 0, .bool false]) (by simp [results, Try.results16, go_sem]) rfl ⟨_, rfl, ints_nil _ _ _ _ (by omega), by (repeat (first | with_reducible exact Below.refl _ _ | ((with_reducible refine Below.setCell ?_ ?_ _); rotate_left; (focus (first | omega | (simp; done) | (simp; omega)))) | ((with_reducible refine Below.alloc ?_ ?_ _); rotate_left; (focus (first | omega | (simp; done) | (simp; omega)))) | (with_reducible refine Below.drew ?_) | (with_reducible refine below_drewN ?_ _)))⟩
    · by_cases h2 : 256 < n
      · go_enter Try.func16, Try.ntmps16
        go_wp2_with fail
        exact bodyPost_ret (v := .tuple #[.slice none 0 0, .bool false]) (by simp [results, Try.results16, go_sem]) rfl ⟨_, rfl, ints_nil _ _ _ _ (by omega), by (repeat (first | with_reducible exact Below.refl _ _ | ((with_reducible refine Below.setCell ?_ ?_ _); rotate_left; (focus (first | omega | (simp; done) | (simp; omega)))) | ((with_reducible refine Below.alloc ?_ ?_ _); rotate_left; (focus (first | omega | (simp; done) | (simp; omega)))) | (with_reducible refine Below.drew ?_) | (with_reducible refine below_drewN ?_ _)))⟩
      · have h3 : n < (s.length : Int) := by omega
        go_enter Try.func16, Try.ntmps16
        go_wp2_with fail
        exact bodyPost_ret (v := .tuple #[.slice none 0 0, .bool false]) (by simp [results, Try.results16, go_sem]) rfl ⟨_, rfl, ints_nil _ _ _ _ (by omega), by (repeat (first | with_reducible exact Below.refl _ _ | ((with_reducible refine Below.setCell ?_ ?_ _); rotate_left; (focus (first | omega | (simp; done) | (simp; omega)))) | ((with_reducible refine Below.alloc ?_ ?_ _); rotate_left; (focus (first | omega | (simp; done) | (simp; omega)))) | (with_reducible refine Below.drew ?_) | (with_reducible refine below_drewN ?_ _)))⟩
  · have hz : backB n s = bakB n s := by unfold backB; rw [if_neg hb]
    rw [hz]
    unfold playBad at hb
    obtain ⟨N, rfl⟩ : ∃ N : Nat, n = (N : Int) := ⟨n.toNat, by omega⟩
    have HNO := Lib.hid (fun i hi h => bakB_no (n := N) (s := s) (i := i) hi h)
    have HYE := Lib.hid (bakB_true (n := N) (s := s))
    obtain ⟨m, hm⟩ : ∃ m, s.length = m := ⟨_, rfl⟩
    rw [hm] at HX HYE HNO hb hlb ⊢
    have HL := Lib.hid hm
    have n256 : (N : Int) ≤ 256 := by omega
    have hmn : (m : Int) ≤ N := by omega
    obtain ⟨R, hR⟩ : ∃ R, bakB N s = R := ⟨_, rfl⟩
    rw [hR] at HNO HYE ⊢
    obtain ⟨OUT, hOUT⟩ : ∃ OUT, (if R = true then backL s m else []) = OUT := ⟨_, rfl⟩
    rw [hOUT]
    have HOUT := Lib.hid hOUT
    clear hx hz hb hm hR hOUT
    go_enter Try.func16, Try.ntmps16
    go_wp2_with (at_make; go_must (refine mkown rfl _ _ 24 rfl Try.underlying24 eiInt (w.heap.size + 2) m (by rfl) (by rfl) (by rfl) (by omega) (by simp) ?_))
    intro w2 hown hb2 _
    have hmap := (((MapR.made w).below (w' := (w.alloc (.map #[] 0)).alloc (.map #[] 0)) ((Below.refl _ _).alloc (Nat.le_refl _) _)).keep (hb2.block w.heap.size (by omega)))
    have hpl := (MapR.made (w.alloc (.map #[] 0))).keep (w' := w2) (hb2.block _ (by simp))
    rw [World.size_alloc] at hpl
    have B2 := Lib.hid (show Below w.heap.size w w2 from below_tr (((Below.refl _ w).alloc (Nat.le_refl _) _).alloc (by simp) _) (hb2.mono (by omega)))
    have s2 := hpl.lt
    have HMA0 := Lib.hid hmap
    have HPL0 := Lib.hid hpl
    have HOW0 := Lib.hid hown
    clear hown hmap hpl hr hb2
    go_wp2_with fail
    go_loopw [8, 9, 10, 11, 12, 32] (fun out _ _ _ _ i wr => ∃ k : Nat, i = .int .i64 k ∧ k ≤ m ∧ BackOk N s k ∧ wr.ownsRow (w.heap.size + 2) 3 1 out k ((backL s k).map (.int .i64)) ∧ MapR wr w.heap.size (2 * k) (backF s k).1 ∧ MapR wr (w.heap.size + 1) (2 * k) (backF s k).2 ∧ Below w.heap.size w wr) (fun _ _ _ _ _ i _ => m - (intOf i).toNat)
    case atStart => exact ⟨0, rfl, by omega, fun i hi => by omega, HOW0.out, HMA0.out, HPL0.out, B2.out⟩
    case round =>
      obtain ⟨k, rfl, hk, hok, hown, hmap, hpl, hbr⟩ := hrel
      have HOK := Lib.hid hok
      have HOWR := Lib.hid hown
      have HMAR := Lib.hid hmap
      have HPLR := Lib.hid hpl
      have HBR := Lib.hid hbr
      have hsz := hpl.lt
      have i1 : (0 : Int) ≤ (k : Int) := by omega
      clear hok hown hmap hbr hpl
      by_cases hlt : k < m
      · have i2 : (k : Int) < (m : Int) := by omega
        obtain ⟨p, hp⟩ := getElem?_ex (l := s) (k := k) (by rw [HL.out]; exact hlt)
        obtain ⟨b, o, rfl, hbw, c0⟩ := HC.out k p hp
        have e0 := (HBR.out.cell (p := ⟨b, o + k, none⟩) hbw).trans c0
        have HP := Lib.hid hp
        clear c0 hp
        by_cases h0 : p < 0
        · have HR := Lib.hid (HNO.out k hlt (by rw [getD_of HP.out]; omega))
          go_wp2_with fail
          exact bodyPost_ret (v := .tuple #[.slice none 0 0, .bool false]) (by simp [results, Try.results16, go_sem]) rfl ⟨_, by rw [HR.out], by rw [← HOUT.out, HR.out]; exact ints_nil _ _ _ _ (by omega), HBR.out⟩
        · by_cases h1 : (N : Int) ≤ p
          · have HR := Lib.hid (HNO.out k hlt (by rw [getD_of HP.out]; omega))
            go_wp2_with fail
            exact bodyPost_ret (v := .tuple #[.slice none 0 0, .bool false]) (by simp [results, Try.results16, go_sem]) rfl ⟨_, by rw [HR.out], by rw [← HOUT.out, HR.out]; exact ints_nil _ _ _ _ (by omega), HBR.out⟩
          · obtain ⟨q, rfl⟩ : ∃ q : Nat, p = (q : Int) := ⟨p.toNat, by omega⟩
            have h1' : (q : Int) < (N : Int) := by omega
            have hinv := HOK.out.inv (by omega) k (Nat.le_refl _)
            have HBA := Lib.hid (show (backF s k).2 q = backAt s k by unfold backAt; rw [getD_of HP.out]; rfl)
            have hg1 := (hinv.2 q (by omega)).1
            have hf1 := (hinv.1 k (by omega)).1
            have hf2 := fun hkn => (hinv.1 (backAt s k) hkn).1
            have hat := at_any (w.heap.size + 1) (2 * k) q (backF s k).2 wr HPLR.out (by omega)
            rw [HBA.out] at hat hg1
            have hf2' := hf2 hg1
            have HAT := Lib.hid hat
            have HNB := Lib.hid (fun h => HNO.out k hlt h)
            have HOKS := Lib.hid (show k ≤ backAt s k → BackOk N s (k + 1) from fun hle i hi => by
              rcases Nat.lt_or_ge i k with h | h
              · exact HOK.out i h
              · obtain rfl : i = k := by omega
                rw [getD_of HP.out]
                exact ⟨by omega, hle⟩)
            have HF1 := Lib.hid (show (backF s (k + 1)).1 = swapF (backF s k).1 k (backAt s k) by unfold backAt; rfl)
            have HF2 := Lib.hid (show (backF s (k + 1)).2 = (fun j => if j = q then k else if j = (backF s k).1 k then backAt s k else (backF s k).2 j) by
              have e : (s.getD k 0).toNat = q := by rw [getD_of HP.out]; rfl
              unfold backAt
              simp only [backF, e])
            have HBL := Lib.hid (backL_succ s k)
            obtain ⟨KK, hKK⟩ : ∃ KK, backAt s k = KK := ⟨_, rfl⟩
            rw [hKK] at HAT HNB HOKS HF1 HF2 HBL hg1 hf2'
            clear hinv hat hf2 hKK
            by_cases h2 : KK < k
            · have h2' : (KK : Int) < (k : Int) := by omega
              have HR := Lib.hid (HNB.out (by omega))
              go_wp2_with fail
              (with_reducible refine HAT.out.mono ?_)
              rintro e w4 ⟨rfl, rfl⟩
              go_wp2_with fail
              exact bodyPost_ret (v := .tuple #[.slice none 0 0, .bool false]) (by simp [results, Try.results16, go_sem]) rfl ⟨_, by rw [HR.out], by rw [← HOUT.out, HR.out]; exact ints_nil _ _ _ _ (by omega), HBR.out⟩
            · have h2' : (k : Int) ≤ (KK : Int) := by omega
              have HA2 := Lib.hid (fun W hW => at_any w.heap.size (2 * k) k (backF s k).1 W hW (by omega))
              have HS2 := Lib.hid (fun W hW => swap_any w.heap.size (2 * k) k KK (backF s k).1 W hW (by omega) (by omega) (by omega) (by omega) (by omega))
              obtain ⟨OT, hOT⟩ : ∃ OT, (backF s k).1 k = OT := ⟨_, rfl⟩
              rw [hOT] at HA2 HF2 hf1
              clear hOT
              go_wp2_with fail
              (with_reducible refine HAT.out.mono ?_)
              rintro e w4 ⟨rfl, rfl⟩
              go_wp2_with (at_builtin; go_must (refine app1 rfl _ _ 24 rfl Try.underlying24 eiInt (w.heap.size + 2) (by rfl) HOWR.out (by rfl) rfl (by simp [Value.oneCell']) (by omega) (by omega) ?_))
              intro v6 w6 hown6 hb6 _
              have OWN6 := Lib.hid hown6
              have HM6 := Lib.hid (HMAR.out.keep (w' := w6) ((hb6.block w.heap.size (by omega)).trans (by go_simp)))
              have HP6 := Lib.hid (HPLR.out.keep (w' := w6) ((hb6.block (w.heap.size + 1) (by omega)).trans (by go_simp)))
              have B6 := Lib.hid (show Below w.heap.size w w6 from below_tr (by (repeat (first | with_reducible exact Below.refl _ _ | ((with_reducible refine Below.setCell ?_ ?_ _); rotate_left; (focus (first | omega | (simp; done) | (simp; omega)))) | ((with_reducible refine Below.alloc ?_ ?_ _); rotate_left; (focus (first | omega | (simp; done) | (simp; omega)))) | (with_reducible refine Below.drew ?_) | (with_reducible refine below_drewN ?_ _) | ((with_reducible refine Below.trans ?_ (Below.mono HBR.out ?_)); rotate_left; (focus (first | omega | (simp; done) | (simp; omega))))))) (hb6.mono (by omega)))
              have s6 := HP6.out.lt
              clear hown6 hb6
              go_wp2_with fail
              (with_reducible refine (HA2.out _ HM6.out).mono ?_)
              rintro e w7 ⟨rfl, rfl⟩
              go_wp2_with fail
              (with_reducible refine (HS2.out _ HM6.out).mono ?_)
              rintro e w8 ⟨rfl, hmap8, hon8⟩
              have HM8 := Lib.hid hmap8
              have HP8 := Lib.hid (HP6.out.keep (hon8.2 (w.heap.size + 1) (by omega) s6))
              have OWN8 := Lib.hid (own_keep OWN6.out fun g hg hgl => hon8.2 g (by omega) hgl)
              have B8 := Lib.hid (below_tr B6.out hon8.1)
              have s8 := HP8.out.lt
              clear hmap8 hon8
              go_wp2_with (at_mapUpdate; refine wp_put rfl _ _ _ 65 rfl Try.underlying65 (w.heap.size + 1) (2 * k) _ rfl HP8.out (by omega) OT KK rfl rfl (by omega) (by omega) ?_)
              intro w9 hp9 hon9
              have HP9 := Lib.hid hp9
              have HM9 := Lib.hid (HM8.out.keep (hon9.2 w.heap.size (by omega) (by omega)))
              have OWN9 := Lib.hid (own_keep OWN8.out fun g hg hgl => hon9.2 g (by omega) hgl)
              have B9 := Lib.hid (below_tr B8.out (hon9.1.mono (by omega)))
              clear hp9 hon9
              go_wp2_with (at_mapUpdate; refine wp_put rfl _ _ _ 65 rfl Try.underlying65 (w.heap.size + 1) (2 * k + 1) _ rfl HP9.out (by omega) q k rfl rfl (by omega) (by omega) ?_)
              intro w10 hp10 hon10
              have HP10 := Lib.hid hp10
              have HM10 := Lib.hid (HM9.out.keep (hon10.2 w.heap.size (by omega) (by have := HM9.out.lt; omega)))
              have OWN10 := Lib.hid (own_keep OWN9.out fun g hg hgl => hon10.2 g (by omega) hgl)
              have B10 := Lib.hid (below_tr B9.out (hon10.1.mono (by omega)))
              clear hp10 hon10
              go_wp2_with fail
              go_roundw
              case rel => exact ⟨k + 1, by go_num, by omega, HOKS.out (by omega), by rw [HBL.out, List.map_append]; exact OWN10.out, by rw [show 2 * (k + 1) = 2 * k + 2 by omega, HF1.out]; exact HM10.out, by rw [show 2 * (k + 1) = 2 * k + 1 + 1 by omega, HF2.out]; exact HP10.out, B10.out⟩
              case measure => simp [intOf] <;> omega
      · obtain rfl : k = m := by omega
        have HR := Lib.hid (show R = true from HYE.out.2 HOK.out)
        have HI := Lib.hid (Ints.own (l := backL s k) HOWR.out (by rw [backL_len]; omega)).2
        go_wp2_with fail
        exact bodyPost_ret (v := .tuple #[u8, .bool true]) (by simp [results, Try.results16, go_sem]) rfl ⟨_, by rw [HR.out], by rw [← HOUT.out, HR.out]; exact HI.out, HBR.out⟩
end Go.Proofs.Ytoljilbldkbjpaa
