/-
  Walk of copseref07.Back.
-/
import Derived.Test.YtoljilbldkbjpaaPickC
import Derived.Test.YtoljilbldkbjpaaPickG
namespace Go.Proofs.Ytoljilbldkbjpaa
open Go.RowKit

/-- Where the i-th number stands, as far as places below kk were looked at. -/
def posI (N : Nat) (s : List Int) (i kk : Nat) : Int := if (0 ≤ s.getD i 0 ∧ s.getD i 0 < N) ∧ i ≤ backAt s i ∧ backAt s i < kk then (backAt s i : Int) else -1

theorem pos_start (N : Nat) (s : List Int) (i : Nat) : posI N s i i = -1 := by
  unfold posI
  rw [if_neg (by omega)]

theorem pos_hit {N : Nat} {s : List Int} {i kk : Nat} (h : InvF N (backF s i).1 (backF s i).2) (hk : kk < N) (hi : i ≤ kk) (e : ((backF s i).1 kk : Int) = s.getD i 0) : posI N s i (kk + 1) = (kk : Int) := by
  obtain ⟨h1, h2⟩ := h.1 kk hk
  have hv : (s.getD i 0).toNat = (backF s i).1 kk := by omega
  have hb : backAt s i = kk := by unfold backAt; rw [hv, h2]
  unfold posI
  rw [hb, if_pos ⟨⟨by omega, by omega⟩, hi, by omega⟩]

theorem pos_miss {N : Nat} {s : List Int} {i kk : Nat} (h : InvF N (backF s i).1 (backF s i).2) (hk : kk < N) (e : ((backF s i).1 kk : Int) ≠ s.getD i 0) : posI N s i (kk + 1) = posI N s i kk := by
  unfold posI
  by_cases hv : 0 ≤ s.getD i 0 ∧ s.getD i 0 < N
  · have h3 := (h.2 (s.getD i 0).toNat (by omega)).2
    have hne : backAt s i ≠ kk := by
      intro hb
      unfold backAt at hb
      rw [hb] at h3
      exact e (by rw [h3]; omega)
    by_cases hc : i ≤ backAt s i ∧ backAt s i < kk
    · rw [if_pos ⟨hv, hc.1, by omega⟩, if_pos ⟨hv, hc⟩]
    · rw [if_neg (by omega), if_neg (by omega)]
  · rw [if_neg (fun hh => hv hh.1), if_neg (fun hh => hv hh.1)]

theorem pos_end {N : Nat} {s : List Int} {i : Nat} (h : InvF N (backF s i).1 (backF s i).2) : posI N s i N = if (0 ≤ s.getD i 0 ∧ s.getD i 0 < N) ∧ i ≤ backAt s i then (backAt s i : Int) else -1 := by
  unfold posI
  by_cases hv : 0 ≤ s.getD i 0 ∧ s.getD i 0 < N
  · have h3 := (h.2 (s.getD i 0).toNat (by omega)).1
    have hb : backAt s i < N := h3
    by_cases hc : i ≤ backAt s i
    · rw [if_pos ⟨hv, hc, hb⟩, if_pos ⟨hv, hc⟩]
    · rw [if_neg (fun hh => hc hh.2.1), if_neg (fun hh => hc hh.2)]
  · rw [if_neg (fun hh => hv hh.1), if_neg (fun hh => hv hh.1)]

theorem cell_of_heap {w w' : World} {b o : Nat} (h : w'.heap[b]? = w.heap[b]?) : w'.cell? ⟨b, o, none⟩ = w.cell? ⟨b, o, none⟩ := World.cell?_of_block (a := ⟨b, o, none⟩) h

theorem row_keep {w w' : World} {base e size n cap G : Nat} {xs : List Value} (h : w.ownsRow base e size (.slice (some ⟨G, 0, none⟩) n cap) n xs) (hk : w'.heap[G]? = w.heap[G]?) : w'.ownsRow base e size (.slice (some ⟨G, 0, none⟩) n cap) n xs := by
  refine ⟨h.1, ?_⟩
  rcases h.2 with ⟨h', _⟩ | ⟨g, cap', cur, h', h2, h3, h4⟩
  · cases h'
  · have hg : G = g := by injection h' with h'; injection h' with h'; injection h'
    subst hg
    exact .inr ⟨G, cap', cur, h', h2, hk.trans h3, h4⟩

set_option maxRecDepth 100000 in
set_option maxHeartbeats 4000000 in
theorem rback_any (n : Int) (v : Value) (s : List Int) (w : World) (h : Ints .i64 w v s) :
    Calls Try.prog 17 #[.int .i64 n, v] w fun e w' => ∃ vo, e = .returned (.tuple #[vo, .bool (backB n s)]) ∧ Ints .i64 w' vo (if backB n s = true then backL s s.length else []) ∧ Below w.heap.size w w' := by
  have HX := Lib.hid h
  obtain ⟨ax, cx, rfl, _, hc2, hl3, hx⟩ := h
  have HC := Lib.hid hx
  have hlb : (s.length : Int) ≤ 9223372036854775807 := by omega
  by_cases hb : playBad n s
  · have hz : backB n s = false := by unfold backB; rw [if_pos hb]
    rw [hz]
    simp only [Bool.false_eq_true, if_false]
    unfold playBad at hb
    clear hx hz
    by_cases h1 : n < 0
    · go_enter Try.func17, Try.ntmps17
      go_wp2_with fail
      exact bodyPost_ret (v := .tuple #[.slice none 0 0, .bool false]) (by simp [results, Try.results17, go_sem]) rfl ⟨_, rfl, ints_nil _ _ _ _ (by omega), by (repeat (first | with_reducible exact Below.refl _ _ | ((with_reducible refine Below.setCell ?_ ?_ _); rotate_left; (focus (first | omega | (simp; done) | (simp; omega)))) | ((with_reducible refine Below.alloc ?_ ?_ _); rotate_left; (focus (first | omega | (simp; done) | (simp; omega)))) | (with_reducible refine Below.drew ?_) | (with_reducible refine below_drewN ?_ _)))⟩
    · by_cases h2 : 256 < n
      · go_enter Try.func17, Try.ntmps17
        go_wp2_with fail
        exact bodyPost_ret (v := .tuple #[.slice none 0 0, .bool false]) (by simp [results, Try.results17, go_sem]) rfl ⟨_, rfl, ints_nil _ _ _ _ (by omega), by (repeat (first | with_reducible exact Below.refl _ _ | ((with_reducible refine Below.setCell ?_ ?_ _); rotate_left; (focus (first | omega | (simp; done) | (simp; omega)))) | ((with_reducible refine Below.alloc ?_ ?_ _); rotate_left; (focus (first | omega | (simp; done) | (simp; omega)))) | (with_reducible refine Below.drew ?_) | (with_reducible refine below_drewN ?_ _)))⟩
      · have h3 : n < (s.length : Int) := by omega
        go_enter Try.func17, Try.ntmps17
        go_wp2_with fail
        exact bodyPost_ret (v := .tuple #[.slice none 0 0, .bool false]) (by simp [results, Try.results17, go_sem]) rfl ⟨_, rfl, ints_nil _ _ _ _ (by omega), by (repeat (first | with_reducible exact Below.refl _ _ | ((with_reducible refine Below.setCell ?_ ?_ _); rotate_left; (focus (first | omega | (simp; done) | (simp; omega)))) | ((with_reducible refine Below.alloc ?_ ?_ _); rotate_left; (focus (first | omega | (simp; done) | (simp; omega)))) | (with_reducible refine Below.drew ?_) | (with_reducible refine below_drewN ?_ _)))⟩
  · have hz : backB n s = bakB n s := by unfold backB; rw [if_neg hb]
    rw [hz]
    unfold playBad at hb
    obtain ⟨N, rfl⟩ : ∃ N : Nat, n = (N : Int) := ⟨n.toNat, by omega⟩
    have HNO := Lib.hid (fun i hi h => bakB_no (n := N) (s := s) (i := i) hi h)
    have HYE := Lib.hid (bakB_true (n := N) (s := s))
    obtain ⟨m, hm⟩ : ∃ m, s.length = m := ⟨_, rfl⟩
    rw [hm] at HX HYE HNO hb hlb ⊢
    have HL := Lib.hid hm
    have n256 : (N : Int) ≤ 256 := by omega
    have hmn : (m : Int) ≤ N := by omega
    obtain ⟨R, hR⟩ : ∃ R, bakB N s = R := ⟨_, rfl⟩
    rw [hR] at HNO HYE ⊢
    obtain ⟨OUT, hOUT⟩ : ∃ OUT, (if R = true then backL s m else []) = OUT := ⟨_, rfl⟩
    rw [hOUT]
    have HOUT := Lib.hid hOUT
    clear hx hz hb hm hR hOUT
    by_cases hN0 : N = 0
    · subst hN0
      obtain rfl : m = 0 := by omega
      have HR := Lib.hid (show R = true from HYE.out.2 fun i hi => by omega)
      have HRW := Lib.hid (show ∀ W, Calls Try.prog 44 #[.int .i64 0] W _ from fun W => rrow_any 0 W (by omega))
      clear n256 hmn hlb
      go_enter Try.func17, Try.ntmps17
      go_wp2_with fail
      (with_reducible refine (HRW.out _).mono ?_)
      rintro e w2 ⟨vo, rfl, hown, b2⟩
      go_wp2_with fail
      refine wp_loop_rounds 1 ?_
      rw [rounds_succ]
      go_wp2_with fail
      exact bodyPost_ret (v := .tuple #[.slice none 0 0, .bool true]) (by simp [results, Try.results17, go_sem]) rfl ⟨_, by rw [HR.out], by rw [← HOUT.out, HR.out]; exact ints_nil _ _ _ _ (by omega), b2⟩
    · have hN1 : 0 < N := by omega
      have HRW := Lib.hid (fun W => rrow_any N W (by omega))
      go_enter Try.func17, Try.ntmps17
      go_wp2_with fail
      (with_reducible refine (HRW.out _).mono ?_)
      rintro e w2 ⟨vo, rfl, hown, b2⟩
      obtain ⟨G, cap, rfl, hcap1, hcap2⟩ := (row_form hown).resolve_left (fun h => by omega)
      have HOW0 := Lib.hid hown
      have hGw := (hown.lt G rfl).1
      have hGb := (hown.lt G rfl).2
      have B2 := Lib.hid b2
      have s2 := b2.size
      clear hown b2
      go_wp2_with fail
      go_loopw [7, 8, 9, 10, 11] (fun out i _ _ _ wr => ∃ k : Nat, i = .int .i64 k ∧ k ≤ m ∧ BackOk N s k ∧ wr.ownsRow w.heap.size 3 1 (.slice (some ⟨G, 0, none⟩) N cap) N ((rowL (backF s k).1 N).map (.int .i64)) ∧ wr.ownsRow w2.heap.size 3 1 out k ((backL s k).map (.int .i64)) ∧ Below w.heap.size w wr ∧ w2.heap.size ≤ wr.heap.size) (fun _ i _ _ _ _ => m - (intOf i).toNat)
      case atStart => exact ⟨0, rfl, by omega, fun i hi => by omega, HOW0.out, World.ownsRow_nil _ _ _ _, B2.out, Nat.le_refl _⟩
      case round =>
        obtain ⟨k, rfl, hk, hok, hown, hout, hbr, hsz⟩ := hrel
        have HOK := Lib.hid hok
        have HOWR := Lib.hid hown
        have HOTR := Lib.hid hout
        have HBR := Lib.hid hbr
        have i1 : (0 : Int) ≤ (k : Int) := by omega
        by_cases hlt : k < m
        · have i2 : (k : Int) < (m : Int) := by omega
          obtain ⟨p, hp⟩ := getElem?_ex (l := s) (k := k) (by rw [HL.out]; exact hlt)
          obtain ⟨b, o, rfl, hbw, c0⟩ := HC.out k p hp
          have e0 := (HBR.out.cell (p := ⟨b, o + k, none⟩) hbw).trans c0
          have hinv := HOK.out.inv (by omega) k (Nat.le_refl _)
          have HPS := Lib.hid (pos_start N s k)
          have HPH := Lib.hid (fun kk h1 h2 e => pos_hit (kk := kk) hinv h1 h2 e)
          have HPM := Lib.hid (fun kk h1 e => pos_miss (kk := kk) hinv h1 e)
          have HPE := Lib.hid (pos_end hinv)
          have HNB := Lib.hid (fun h => HNO.out k hlt h)
          have HOKS := Lib.hid (show ((0 ≤ s.getD k 0 ∧ s.getD k 0 < N) ∧ k ≤ backAt s k) → BackOk N s (k + 1) from fun hh i hi => by
            rcases Nat.lt_or_ge i k with h | h
            · exact HOK.out i h
            · obtain rfl : i = k := by omega
              exact hh)
          have HBL := Lib.hid (backL_succ s k)
          have HF1 := Lib.hid (fun (hK : backAt s k < N) => show rowL (backF s (k + 1)).1 N = ((rowL (backF s k).1 N).set (backAt s k) ((backF s k).1 k : Int)).set k ((backF s k).1 (backAt s k) : Int) from by
            rw [rowL_swap _ (by omega) hK]
            rfl)
          have hbn : (0 ≤ s.getD k 0 ∧ s.getD k 0 < N) → backAt s k < N := fun hv => (hinv.2 (s.getD k 0).toNat (by omega)).1
          have HBN := Lib.hid hbn
          have hgp : s.getD k 0 = p := getD_of hp
          rw [hgp] at HPH HPM HPE HNB HOKS HBN
          obtain ⟨BA, hBA⟩ : ∃ BA, backAt s k = BA := ⟨_, rfl⟩
          rw [hBA] at HPE HNB HOKS HBN HF1 HBL
          have HRA := Lib.hid (fun j (hj : j < N) => (HOWR.out.cellAt j (by omega)).trans (by rw [List.getElem?_map, rowL_at (backF s k).1 hj, Option.map_some]))
          have HFZ := Lib.hid (fun j => HOWR.out.frozenAt j)
          generalize (backF s k).1 = f at *
          generalize hPI : posI N s k = PI at *
          clear hok hown hout hbr hp c0 hinv hgp hbn hBA hPI
          go_wp2_with fail
          go_loopw [9, 10] (fun av i wi => ∃ kk : Nat, i = .int .i64 kk ∧ kk ≤ N ∧ k ≤ kk ∧ av = .int .i64 (PI kk) ∧ ∃ d, wi = wr.drewN d) (fun _ i _ => N - (intOf i).toNat)
          case atStart => exact ⟨k, rfl, by omega, Nat.le_refl _, by rw [HPS.out], 0, rfl⟩
          case round =>
            obtain ⟨kk, rfl, hkN, hkk, rfl, d, rfl⟩ := hrel
            have j1 : (0 : Int) ≤ (kk : Int) := by omega
            by_cases hlt2 : kk < N
            · have j2 : (kk : Int) < (N : Int) := by omega
              have ck := HRA.out kk hlt2
              by_cases heq : (f kk : Int) = p
              · have HPI := Lib.hid (HPH.out kk hlt2 hkk heq)
                rw [heq] at ck
                go_wp2_with fail
                go_quiet (fail)
                go_wp2_with fail
                go_roundw
                case rel => exact ⟨kk + 1, by go_num, by omega, by omega, by rw [HPI.out], _, rfl⟩
                case measure => simp [intOf] <;> omega
              · have HPI := Lib.hid (HPM.out kk hlt2 heq)
                have hne : ((f kk : Int) == p) = false := by simp [heq]
                go_wp2_with fail
                go_quiet (fail)
                go_wp2_with fail
                go_roundw
                case rel => exact ⟨kk + 1, by go_num, by omega, by omega, by rw [HPI.out], _, rfl⟩
                case measure => simp [intOf] <;> omega
            · obtain rfl : kk = N := by omega
              by_cases hgood : (0 ≤ p ∧ p < (kk : Int)) ∧ k ≤ BA
              · have HPI := Lib.hid (show PI kk = (BA : Int) by rw [HPE.out, if_pos hgood])
                have hBN := HBN.out hgood.1
                have HF2 := Lib.hid (HF1.out hBN)
                have HOK2 := Lib.hid (HOKS.out hgood)
                rw [HPI.out]
                have hb1 : (k : Int) ≤ (BA : Int) := by omega
                have hb2 : (BA : Int) < (kk : Int) := by omega
                have hb3 : (k : Int) < (kk : Int) := by omega
                have c1 := HRA.out BA hBN
                have c2 := HRA.out k (by omega)
                obtain ⟨X1, hX1⟩ : ∃ X, f k = X := ⟨_, rfl⟩
                obtain ⟨X2, hX2⟩ : ∃ X, f BA = X := ⟨_, rfl⟩
                rw [hX1] at HF2 c2
                rw [hX2] at HF2 c1
                have HC1 := Lib.hid c1
                have HC2 := Lib.hid c2
                clear hX1 hX2 hgood c1 c2
                go_wp2_with (at_builtin; go_must (refine app1 rfl _ _ 24 rfl Try.underlying24 eiInt w2.heap.size (by rfl) (own_keep (w' := wr.drewN d) HOTR.out fun g _ _ => rfl) (by rfl) rfl (by simp [Value.oneCell']) (by omega) (by exact hsz) ?_))
                intro v6 w6 hown6 hb6 _
                have OWN6 := Lib.hid hown6
                have hbk : w6.heap[G]? = wr.heap[G]? := (hb6.block G hGb).trans (by go_simp)
                have ROW6 := Lib.hid (row_keep (w' := w6) HOWR.out hbk)
                have B6 := Lib.hid (show Below w.heap.size w w6 from below_tr (by (repeat (first | with_reducible exact Below.refl _ _ | ((with_reducible refine Below.setCell ?_ ?_ _); rotate_left; (focus (first | omega | (simp; done) | (simp; omega)))) | ((with_reducible refine Below.alloc ?_ ?_ _); rotate_left; (focus (first | omega | (simp; done) | (simp; omega)))) | (with_reducible refine Below.drew ?_) | (with_reducible refine below_drewN ?_ _) | ((with_reducible refine Below.trans ?_ (Below.mono HBR.out ?_)); rotate_left; (focus (first | omega | (simp; done) | (simp; omega))))))) (hb6.mono B2.out.size))
                have hs6 : wr.heap.size ≤ w6.heap.size := by have := hb6.size; simp at this; omega
                have c1 : w6.cell? ⟨G, BA, none⟩ = some (.int .i64 (X2 : Int)) := (cell_of_heap hbk).trans HC1.out
                have c2 : w6.cell? ⟨G, k, none⟩ = some (.int .i64 (X1 : Int)) := (cell_of_heap hbk).trans HC2.out
                have f1 := ROW6.out.frozenAt BA
                have f2 := ROW6.out.frozenAt k
                have c5 : (w6.setCell ⟨G, BA, none⟩ (.int .i64 (X1 : Int))).cell? ⟨G, k, none⟩ = some (.int .i64 (X1 : Int)) := by
                  by_cases h : BA = k
                  · subst h
                    exact World.cell?_setCell_same _ _ _ (u := .int .i64 X2) c1
                  · exact (World.cell?_setCell_other _ _ _ _ (by intro e; injection e with _ e _; omega)).trans c2
                clear hown6 hb6 hbk
                go_wp2_with fail
                go_roundw
                case rel =>
                  refine ⟨k + 1, by go_num, by omega, HOK2.out, ?_, ?_, by (repeat (first | with_reducible exact Below.refl _ _ | ((with_reducible refine Below.setCell ?_ ?_ _); rotate_left; (focus (first | omega | (simp; done) | (simp; omega)))) | ((with_reducible refine Below.alloc ?_ ?_ _); rotate_left; (focus (first | omega | (simp; done) | (simp; omega)))) | (with_reducible refine Below.drew ?_) | (with_reducible refine below_drewN ?_ _) | ((with_reducible refine Below.trans ?_ (Below.mono B6.out ?_)); rotate_left; (focus (first | omega | (simp; done) | (simp; omega)))))), by simp; omega⟩
                  · rw [HF2.out, List.map_set, List.map_set]
                    exact ((ROW6.out.stored BA _).1.stored k _).1
                  · rw [HBL.out, List.map_append]
                    exact own_keep OWN6.out fun g hg _ => (Below.heap_setCell _ _ _ _ (by show g ≠ G; omega)).trans (Below.heap_setCell _ _ _ _ (by show g ≠ G; omega))
                case measure => simp [intOf] <;> omega
              · have HPI := Lib.hid (show PI kk = -1 by rw [HPE.out, if_neg hgood])
                have HR := Lib.hid (HNB.out hgood)
                rw [HPI.out]
                clear hgood
                go_wp2_with fail
                exact bodyPost_ret (v := .tuple #[.slice none 0 0, .bool false]) (by simp [results, Try.results17, go_sem]) rfl ⟨_, by rw [HR.out], by rw [← HOUT.out, HR.out]; exact ints_nil _ _ _ _ (by omega), by (repeat (first | with_reducible exact Below.refl _ _ | ((with_reducible refine Below.setCell ?_ ?_ _); rotate_left; (focus (first | omega | (simp; done) | (simp; omega)))) | ((with_reducible refine Below.alloc ?_ ?_ _); rotate_left; (focus (first | omega | (simp; done) | (simp; omega)))) | (with_reducible refine Below.drew ?_) | (with_reducible refine below_drewN ?_ _) | ((with_reducible refine Below.trans ?_ (Below.mono HBR.out ?_)); rotate_left; (focus (first | omega | (simp; done) | (simp; omega))))))⟩
        · obtain rfl : k = m := by omega
          have HR := Lib.hid (show R = true from HYE.out.2 HOK.out)
          have HI := Lib.hid (Ints.own (l := backL s k) HOTR.out (by rw [backL_len]; omega)).2
          clear hok hown hout hbr
          go_wp2_with fail
          exact bodyPost_ret (v := .tuple #[u7, .bool true]) (by simp [results, Try.results17, go_sem]) rfl ⟨_, by rw [HR.out], by rw [← HOUT.out, HR.out]; exact HI.out, HBR.out⟩
end Go.Proofs.Ytoljilbldkbjpaa
