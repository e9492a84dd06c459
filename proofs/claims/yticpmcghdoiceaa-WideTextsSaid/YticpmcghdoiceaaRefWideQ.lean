/-
  Walk of copseref02.Parse.
-/
import Derived.Test.YticpmcghdoiceaaTextMath
import Derived.Test.YticpmcghdoiceaaWideJ
import Derived.Test.YticpmcghdoiceaaRefWideG
namespace Go.Proofs.Yticpmcghdoiceaa
open Go.RowKit

theorem idx_str {s : ByteArray} {l : List Int} (hs : s.data.toList.map (fun b => (b.toNat : Int)) = l) {k : Nat} {x : Int} (hx : l[k]? = some x) (W : World) :
    (Instr.index 9 (.string s) (.int .i64 (k : Int))).run Try.prog W = .ok (.int .u8 x) W := by
  have hk : k < s.size := by rw [str_size hs]; exact (List.getElem?_eq_some_iff.1 hx).1
  rw [run_index_string W 9 s .i64 (k : Int) Try.underlying9, dif_pos ⟨by omega, by omega⟩]
  congr 2
  rw [← hs, List.getElem?_map, Array.getElem?_toList] at hx
  have e : s.data[k]? = some s.data[k] := Array.getElem?_eq_getElem hk
  rw [e] at hx
  exact Option.some.inj hx

theorem len_str {s : ByteArray} {l : List Int} (hs : s.data.toList.map (fun b => (b.toNat : Int)) = l) (ty : TypeId) (W : World) :
    (Builtin.len_ #[9] ty #[.string s]).run Try.prog W = .ok (.int .i64 (l.length : Int)) W := by
  rw [run_len_string W 9 ty s Try.underlying9, str_size hs]; rfl

theorem digs_ten : digs 10 = [10] := by decide +kernel

theorem ten_row {W : World} {b : Nat} (hb : b = W.heap.size) : Ints .i64 (W.alloc (.cells #[.int .i64 10] 3)) (.slice (some ⟨b, 0, none⟩) 1 1) (digs 10) := by
  rw [digs_ten]
  exact Ints.new' .i64 _ _ _ [10] _ 1 1 hb (by rfl) (by rfl) (by omega) (by omega)

set_option maxRecDepth 100000 in
set_option maxHeartbeats 4000000 in
theorem rParse_any (s : ByteArray) (l : List Int) (w : World) (hs : s.data.toList.map (fun b => (b.toNat : Int)) = l) (hl : l.length ≤ 1048576) :
    Calls Try.prog 25 #[.string s] w fun e w' => e = .returned (.tuple #[WV (parseL l).1, .int .i64 (parseL l).2]) ∧ Below w.heap.size w w' := by
  have hb8 : ∀ x ∈ l, 0 ≤ x ∧ x ≤ 255 := by
    intro x hx
    rw [← hs] at hx
    obtain ⟨b, _, rfl⟩ := List.mem_map.1 hx
    have := b.toNat_lt
    omega
  have HS := Lib.hid hs
  have H8 := Lib.hid hb8
  obtain ⟨m, hm⟩ : ∃ m, parseL l = m := ⟨_, rfl⟩
  rw [hm]
  have HM := Lib.hid hm
  obtain ⟨B, hB⟩ : ∃ B : Bool, decide (l = [] ∨ (1 < l.length ∧ l[0]? = some 48)) = B := ⟨_, rfl⟩
  have HB := Lib.hid hB
  have HL := Lib.hid hl
  clear hm hs hb8 hB
  go_enter Try.func25, Try.ntmps25
  go_upto_region 1 with fail
  go_cut [18] (fun c wx => c = .bool B ∧ wx = w.alloc (.cells #[.int .u64 0, .int .u64 0] 24))
  case first =>
    go_wp2_with fail
    · go_meet
      case rel =>
        refine ⟨?_, rfl⟩
        have h := str_size HS.out
        have h2 : s.toList = [] := by assumption
        have h3 : l.length = 0 := by
          rw [← h]
          have : s.toList.length = s.size := toList_len s
          rw [← this, h2]; rfl
        have h4 := List.eq_nil_of_length_eq_zero h3
        rw [← HB.out, decide_eq_true (.inl h4)]
    · go_meet
      case rel =>
        refine ⟨?_, rfl⟩
        have h0 : 0 < s.size := by assumption
        have e := lead_eq HS.out h0
        have e2 := str_size HS.out
        have h1 : (1 : Int) < s.size := by assumption
        have h5 : s.toList.isEmpty = false := by
          have h6 : ¬ s.toList = [] := by assumption
          simpa using h6
        have h7 : l ≠ [] := fun h => by
          have : l.length = 0 := by rw [h]; rfl
          omega
        rw [← HB.out, h5, Bool.false_or, e]
        by_cases h : ((s[0].toNat : Nat) : Int) = 48
        · rw [h]; rw [decide_eq_true (.inr ⟨by omega, rfl⟩)]; rfl
        · rw [decide_eq_false (by rintro (h8 | ⟨_, h8⟩); exact h7 h8; exact h (Option.some.inj h8))]; simpa using h
    · go_meet
      case rel =>
        refine ⟨?_, rfl⟩
        have h6 : ¬ s.toList = [] := by assumption
        have h1 : (s.size : Int) ≤ 1 := by assumption
        have e2 := str_size HS.out
        have h7 : l ≠ [] := fun h => by
          rw [h] at e2
          have := toList_len s
          rw [e2] at this
          exact h6 (List.eq_nil_of_length_eq_zero this)
        rw [← HB.out, decide_eq_false (by rintro (h8 | ⟨h8, _⟩); exact h7 h8; omega)]
        simpa using h6
  case rest =>
    obtain ⟨rfl, rfl⟩ := hcut
    rcases Bool.eq_false_or_eq_true B with rfl | rfl
    · have hp : m = (0, 20) := by
        rw [← HM.out]; unfold parseL; rw [if_pos (of_decide_eq_true HB.out)]
      subst hp
      clear hl
      go_wp2_with fail
      refine bodyPost_ret (v := .tuple #[.agg #[.int .u64 0, .int .u64 0], .int .i64 20]) (by simp [results, Try.results25, go_sem]) rfl ⟨rfl, ?_⟩
      (repeat (first | with_reducible exact Below.refl _ _ | ((with_reducible refine Below.setCell ?_ ?_ _); rotate_left; (focus (first | omega | (simp; done) | (simp; omega)))) | ((with_reducible refine Below.alloc ?_ ?_ _); rotate_left; (focus (first | omega | (simp; done) | (simp; omega)))) | (with_reducible refine Below.drew ?_) | (with_reducible refine below_drewN ?_ _)))
    · have HZ := Lib.hid (of_decide_eq_false HB.out)
      have hlen := len_str HS.out
      clear hl HB
      go_wp2_with fail
      go_loopw [4] (fun i wr => ∃ k : Nat, i = .int .i64 k ∧ k ≤ l.length ∧ (∀ y ∈ l.take k, 48 ≤ y ∧ y ≤ 57) ∧ w.alloc (.cells #[.int .u64 0, .int .u64 0] 24) = wr) (fun i _ => l.length - (intOf i).toNat)
      case atStart => exact ⟨0, rfl, by omega, by simp, rfl⟩
      case round =>
        obtain ⟨k, rfl, hk, hd, rfl⟩ := hrel
        have HD := Lib.hid hd
        clear hd
        by_cases hk2 : k < l.length
        · obtain ⟨x, hx⟩ := getElem?_ex (l := l) (k := k) hk2
          have hix := fun W => idx_str HS.out hx W
          have HX := Lib.hid hx
          have hk3 : (k : Int) < l.length := by omega
          have hk4 : (k : Int) < 1048576 := by have := HL.out; omega
          clear hx
          by_cases h1 : x < 48
          · go_wp2_with fail
            refine bodyPost_ret (v := .tuple #[.agg #[.int .u64 0, .int .u64 0], .int .i64 20]) (by simp [results, Try.results25, go_sem]) rfl ⟨?_, by (repeat (first | with_reducible exact Below.refl _ _ | ((with_reducible refine Below.setCell ?_ ?_ _); rotate_left; (focus (first | omega | (simp; done) | (simp; omega)))) | ((with_reducible refine Below.alloc ?_ ?_ _); rotate_left; (focus (first | omega | (simp; done) | (simp; omega)))) | (with_reducible refine Below.drew ?_) | (with_reducible refine below_drewN ?_ _)))⟩
            rw [← HM.out, parse_bad HX.out (.inl h1)]; rfl
          · by_cases h2 : 57 < x
            · go_wp2_with fail
              refine bodyPost_ret (v := .tuple #[.agg #[.int .u64 0, .int .u64 0], .int .i64 20]) (by simp [results, Try.results25, go_sem]) rfl ⟨?_, by (repeat (first | with_reducible exact Below.refl _ _ | ((with_reducible refine Below.setCell ?_ ?_ _); rotate_left; (focus (first | omega | (simp; done) | (simp; omega)))) | ((with_reducible refine Below.alloc ?_ ?_ _); rotate_left; (focus (first | omega | (simp; done) | (simp; omega)))) | (with_reducible refine Below.drew ?_) | (with_reducible refine below_drewN ?_ _)))⟩
              rw [← HM.out, parse_bad HX.out (.inr h2)]; rfl
            · go_wp2_with fail
              go_roundw
              case rel => exact ⟨k + 1, by go_num, by omega, take_snoc_all HD.out HX.out (by omega), trivial⟩
              case measure => simp [intOf] <;> omega
        · obtain rfl : k = l.length := by omega
          have hdig := Lib.hid (all_take HD.out)
          have hne : l ≠ [] := fun h => HZ.out (.inl h)
          have hz : ¬ (1 < l.length ∧ l[0]? = some 48) := fun h => HZ.out (.inr h)
          have hpd := parse_dig hne hz hdig.out
          rw [decN_val] at hpd
          have HPD := Lib.hid hpd
          have HNZ := Lib.hid (And.intro hne hz)
          clear HD hk hk2 hpd hne hz
          by_cases h39 : (39 : Int) < l.length
          · go_wp2_with fail
            refine bodyPost_ret (v := .tuple #[.agg #[.int .u64 0, .int .u64 0], .int .i64 10]) (by simp [results, Try.results25, go_sem]) rfl ⟨?_, by (repeat (first | with_reducible exact Below.refl _ _ | ((with_reducible refine Below.setCell ?_ ?_ _); rotate_left; (focus (first | omega | (simp; done) | (simp; omega)))) | ((with_reducible refine Below.alloc ?_ ?_ _); rotate_left; (focus (first | omega | (simp; done) | (simp; omega)))) | (with_reducible refine Below.drew ?_) | (with_reducible refine below_drewN ?_ _)))⟩
            have h := long_over (l := l) (by omega) hdig.out (fun h => HNZ.out.2 ⟨by omega, h⟩)
            rw [← HM.out, HPD.out, if_neg (by omega)]; rfl
          · have H39 := Lib.hid h39
            clear h39
            go_wp2_with fail
            go_loopw [5, 6] (fun v i wr => ∃ (k : Nat) (ad : Option Addr) (c : Nat), i = .int .i64 k ∧ k ≤ l.length ∧ v = .slice ad (digs (valN (l.take k))).length c ∧ Ints .i64 wr (.slice ad (digs (valN (l.take k))).length c) (digs (valN (l.take k))) ∧
              wr.cell? ⟨w.heap.size, 0, none⟩ = some (.int .u64 0) ∧ wr.cell? ⟨w.heap.size, 1, none⟩ = some (.int .u64 0) ∧ wr.frozen? ⟨w.heap.size, 0, none⟩ = false ∧ wr.frozen? ⟨w.heap.size, 1, none⟩ = false ∧ w.heap.size < wr.heap.size ∧ Below w.heap.size w wr) (fun _ i _ => l.length - (intOf i).toNat)
            case atStart =>
              have e0 : digs (valN (l.take 0)) = [] := digs_zero
              exact ⟨0, none, 0, rfl, by omega, by rw [e0]; rfl, by rw [e0]; exact Ints.nil _ _, by go_simp, by go_simp, by go_simp, by go_simp, by simp, by (repeat (first | with_reducible exact Below.refl _ _ | ((with_reducible refine Below.setCell ?_ ?_ _); rotate_left; (focus (first | omega | (simp; done) | (simp; omega)))) | ((with_reducible refine Below.alloc ?_ ?_ _); rotate_left; (focus (first | omega | (simp; done) | (simp; omega)))) | (with_reducible refine Below.drew ?_) | (with_reducible refine below_drewN ?_ _)))⟩
            case round =>
              obtain ⟨k, ad, c, rfl, hk, rfl, hI, x0, x1, y0, y1, hsz, hb⟩ := hrel
              have IV := Lib.hid hI; have BB := Lib.hid hb
              have h39' : l.length ≤ 39 := by have := H39.out; omega
              by_cases hk2 : k < l.length
              · obtain ⟨x, hx⟩ := getElem?_ex (l := l) (k := k) hk2
                have hix := fun W => idx_str HS.out hx W
                have HX := Lib.hid hx
                have hk3 : (k : Int) < l.length := by omega
                have hk4 : (k : Int) < 1048576 := by omega
                have hxd := hdig.out x (List.mem_of_getElem? hx)
                have hv : valN (l.take k) < 1000000000000000000000000000000000000000 := by
                  have h1 := valN_lt (l.take k) fun y hy => hdig.out y (List.mem_of_mem_take hy)
                  refine Nat.lt_of_lt_of_le h1 (Nat.le_trans (Nat.pow_le_pow_right (by omega) (show (l.take k).length ≤ 39 by rw [List.length_take]; omega)) (by decide))
                have hvt := valN_take hx
                obtain ⟨d, rfl⟩ : ∃ d : Nat, x = 48 + d := ⟨(x - 48).toNat, by omega⟩
                rw [show (48 + (d : Int) - 48).toNat = d by omega] at hvt
                obtain ⟨N, hN⟩ : ∃ N, valN (l.take k) = N := ⟨_, rfl⟩
                rw [hN] at hv hvt
                have IV : Hid (Ints .i64 wr (.slice ad (digs N).length c) (digs N)) := Lib.hid (by rw [← hN]; exact IV.out)
                rw [hN]
                have l1 : (digs N).length ≤ 9 := digs_len _ 9 (by show N < 22300745198530623141535718272648361505980416; omega)
                have l2 : (digs 10).length ≤ 1 := digs_len _ 1 (by decide)
                have l3 : (digs (N * 10)).length ≤ 10 := digs_len _ 10 (by show N * 10 < 1461501637330902918203684832716283019655932542976; omega)
                have l4 : (digs d).length ≤ 1 := digs_len _ 1 (by omega)
                have ht := fun v v' W (i1 : Ints .i64 W v (digs N)) (i2 : Ints .i64 W v' (digs 10)) => times_any v v' N 10 W i1 i2 (by omega) (by omega)
                have ho := fun W => of_any d W (by omega)
                have hpl := fun v v' W (i1 : Ints .i64 W v (digs (N * 10))) (i2 : Ints .i64 W v' (digs d)) => plus_any v v' (N * 10) d W i1 i2 (by omega)
                have hw : IntKind.u8.wrap (48 + (d : Int) - 48) = d := by rw [show 48 + (d : Int) - 48 = d by omega]; exact wraps_u8 _ (by omega) (by omega)
                have hw2 : IntKind.u8.wrap (d : Int) = d := wraps_u8 _ (by omega) (by omega)
                have hw3 : IntKind.u64.wrap (d : Int) = d := by rw [IntKind.wrap_u64]; omega
                have HT := Lib.hid ht; have HO := Lib.hid ho; have HPL := Lib.hid hpl
                have HVT := Lib.hid hvt
                clear hI hb hx ht ho hpl hv hvt hN l1 l2 l3 l4 hk2 h39' hxd
                have P0 := Lib.hid True.intro
                have TEN := Lib.hid (ten_row (W := wr) (b := wr.heap.size) rfl)
                go_wp2_with fail
                go_region_held3 (fun w' => True) (first | (go_simp; done) | (go_keep; done)) (first | (first | (go_at_call 18; clear P0; have P1 := Lib.hid True.intro; (with_reducible refine (HT.out _ _ _ (IV.out.below ?_) (TEN.out.below ?_)).mono ?_); (focus ((repeat (first | with_reducible exact Below.refl _ _ | ((with_reducible refine Below.setCell ?_ ?_ _); rotate_left; (focus (first | omega | (simp; done) | (simp; omega)))) | ((with_reducible refine Below.alloc ?_ ?_ _); rotate_left; (focus (first | omega | (simp; done) | (simp; omega)))) | (with_reducible refine Below.drew ?_) | (with_reducible refine below_drewN ?_ _))); done)); (focus ((repeat (first | with_reducible exact Below.refl _ _ | ((with_reducible refine Below.setCell ?_ ?_ _); rotate_left; (focus (first | omega | (simp; done) | (simp; omega)))) | ((with_reducible refine Below.alloc ?_ ?_ _); rotate_left; (focus (first | omega | (simp; done) | (simp; omega)))) | (with_reducible refine Below.drew ?_) | (with_reducible refine below_drewN ?_ _))); done)); rintro e w9 ⟨vp, rfl, io, _, b9⟩; have s9 : w.heap.size < w9.heap.size := (by have := b9.size; first | omega | (simp at this; omega)); have BB := Lib.hid (show Below w.heap.size w w9 from below_tr (by (repeat (first | with_reducible exact Below.refl _ _ | ((with_reducible refine Below.setCell ?_ ?_ _); rotate_left; (focus (first | omega | (simp; done) | (simp; omega)))) | ((with_reducible refine Below.alloc ?_ ?_ _); rotate_left; (focus (first | omega | (simp; done) | (simp; omega)))) | (with_reducible refine Below.drew ?_) | (with_reducible refine below_drewN ?_ _) | ((with_reducible refine Below.trans ?_ (Below.mono BB.out ?_)); rotate_left; (focus (first | omega | (simp; done) | (simp; omega))))))) (b9.mono (by first | omega | (simp; done) | (simp; omega)))); have k0 := b9.cell (p := ⟨w.heap.size, 0, none⟩) (by first | omega | (simp; done) | (simp; omega)); have k1 := b9.cell (p := ⟨w.heap.size, 1, none⟩) (by first | omega | (simp; done) | (simp; omega)); have k2 := b9.frozen (p := ⟨w.heap.size, 0, none⟩) (by first | omega | (simp; done) | (simp; omega)); have k3 := b9.frozen (p := ⟨w.heap.size, 1, none⟩) (by first | omega | (simp; done) | (simp; omega)); obtain ⟨ap, cp, rfl⟩ := io.shape; have VP := Lib.hid io; clear io b9) | (go_at_call 20; clear P1; have P2 := Lib.hid True.intro; (with_reducible refine (HO.out _).mono ?_); rintro e w9 ⟨vo, rfl, io, _, b9⟩; have s9 : w.heap.size < w9.heap.size := (by have := b9.size; first | omega | (simp at this; omega)); have BB := Lib.hid (show Below w.heap.size w w9 from below_tr (by (repeat (first | with_reducible exact Below.refl _ _ | ((with_reducible refine Below.setCell ?_ ?_ _); rotate_left; (focus (first | omega | (simp; done) | (simp; omega)))) | ((with_reducible refine Below.alloc ?_ ?_ _); rotate_left; (focus (first | omega | (simp; done) | (simp; omega)))) | (with_reducible refine Below.drew ?_) | (with_reducible refine below_drewN ?_ _) | ((with_reducible refine Below.trans ?_ (Below.mono BB.out ?_)); rotate_left; (focus (first | omega | (simp; done) | (simp; omega))))))) (b9.mono (by first | omega | (simp; done) | (simp; omega)))); have k0 := b9.cell (p := ⟨w.heap.size, 0, none⟩) (by first | omega | (simp; done) | (simp; omega)); have k1 := b9.cell (p := ⟨w.heap.size, 1, none⟩) (by first | omega | (simp; done) | (simp; omega)); have k2 := b9.frozen (p := ⟨w.heap.size, 0, none⟩) (by first | omega | (simp; done) | (simp; omega)); have k3 := b9.frozen (p := ⟨w.heap.size, 1, none⟩) (by first | omega | (simp; done) | (simp; omega)); have VP := Lib.hid ((VP.out.below (by (repeat (first | with_reducible exact Below.refl _ _ | ((with_reducible refine Below.setCell ?_ ?_ _); rotate_left; (focus (first | omega | (simp; done) | (simp; omega)))) | ((with_reducible refine Below.alloc ?_ ?_ _); rotate_left; (focus (first | omega | (simp; done) | (simp; omega)))) | (with_reducible refine Below.drew ?_) | (with_reducible refine below_drewN ?_ _))))).below b9); obtain ⟨ao, co, rfl⟩ := io.shape; have VO := Lib.hid io; clear io b9) | (go_at_call 17; clear P2; have P3 := Lib.hid True.intro; (with_reducible refine (HPL.out _ _ _ (VP.out.below (by (repeat (first | with_reducible exact Below.refl _ _ | ((with_reducible refine Below.setCell ?_ ?_ _); rotate_left; (focus (first | omega | (simp; done) | (simp; omega)))) | ((with_reducible refine Below.alloc ?_ ?_ _); rotate_left; (focus (first | omega | (simp; done) | (simp; omega)))) | (with_reducible refine Below.drew ?_) | (with_reducible refine below_drewN ?_ _))))) (VO.out.below (by (repeat (first | with_reducible exact Below.refl _ _ | ((with_reducible refine Below.setCell ?_ ?_ _); rotate_left; (focus (first | omega | (simp; done) | (simp; omega)))) | ((with_reducible refine Below.alloc ?_ ?_ _); rotate_left; (focus (first | omega | (simp; done) | (simp; omega)))) | (with_reducible refine Below.drew ?_) | (with_reducible refine below_drewN ?_ _)))))).mono ?_); rintro e w9 ⟨vr, rfl, io, _, b9⟩; have s9 : w.heap.size < w9.heap.size := (by have := b9.size; first | omega | (simp at this; omega)); have BB := Lib.hid (show Below w.heap.size w w9 from below_tr (by (repeat (first | with_reducible exact Below.refl _ _ | ((with_reducible refine Below.setCell ?_ ?_ _); rotate_left; (focus (first | omega | (simp; done) | (simp; omega)))) | ((with_reducible refine Below.alloc ?_ ?_ _); rotate_left; (focus (first | omega | (simp; done) | (simp; omega)))) | (with_reducible refine Below.drew ?_) | (with_reducible refine below_drewN ?_ _) | ((with_reducible refine Below.trans ?_ (Below.mono BB.out ?_)); rotate_left; (focus (first | omega | (simp; done) | (simp; omega))))))) (b9.mono (by first | omega | (simp; done) | (simp; omega)))); have k0 := b9.cell (p := ⟨w.heap.size, 0, none⟩) (by first | omega | (simp; done) | (simp; omega)); have k1 := b9.cell (p := ⟨w.heap.size, 1, none⟩) (by first | omega | (simp; done) | (simp; omega)); have k2 := b9.frozen (p := ⟨w.heap.size, 0, none⟩) (by first | omega | (simp; done) | (simp; omega)); have k3 := b9.frozen (p := ⟨w.heap.size, 1, none⟩) (by first | omega | (simp; done) | (simp; omega)); obtain ⟨ar, cr, rfl⟩ := io.shape; have VR := Lib.hid io; clear io b9)))
                all_goals
                  have X0 : w9.cell? ⟨w.heap.size, 0, none⟩ = some (.int .u64 0) := by go_simp
                  have X1 : w9.cell? ⟨w.heap.size, 1, none⟩ = some (.int .u64 0) := by go_simp
                  have Y0 : w9.frozen? ⟨w.heap.size, 0, none⟩ = false := by go_simp
                  have Y1 : w9.frozen? ⟨w.heap.size, 1, none⟩ = false := by go_simp
                  go_wp2_with fail
                  go_roundw
                  case rel => exact ⟨k + 1, ar, cr, by go_num, by omega, by rw [HVT.out], by rw [HVT.out]; exact VR.out.below (by (repeat (first | with_reducible exact Below.refl _ _ | ((with_reducible refine Below.setCell ?_ ?_ _); rotate_left; (focus (first | omega | (simp; done) | (simp; omega)))) | ((with_reducible refine Below.alloc ?_ ?_ _); rotate_left; (focus (first | omega | (simp; done) | (simp; omega)))) | (with_reducible refine Below.drew ?_) | (with_reducible refine below_drewN ?_ _)))), by go_simp, by go_simp, by go_simp, by go_simp, by first | omega | (simp; omega), by (repeat (first | with_reducible exact Below.refl _ _ | ((with_reducible refine Below.setCell ?_ ?_ _); rotate_left; (focus (first | omega | (simp; done) | (simp; omega)))) | ((with_reducible refine Below.alloc ?_ ?_ _); rotate_left; (focus (first | omega | (simp; done) | (simp; omega)))) | (with_reducible refine Below.drew ?_) | (with_reducible refine below_drewN ?_ _) | ((with_reducible refine Below.trans ?_ (Below.mono BB.out ?_)); rotate_left; (focus (first | omega | (simp; done) | (simp; omega))))))⟩
                  case measure => simp [intOf] <;> omega
              · obtain rfl : k = l.length := by omega
                clear hk hk2 h39' hI hb
                rw [List.take_length] at IV ⊢
                have hf := fun W (i1 : Ints .i64 W (.slice ad (digs (valN l)).length c) (digs (valN l))) => rFits_any _ (valN l) W i1
                obtain ⟨fh, fl, _, _, _, e1⟩ := wv_ex (fitW_lt (valN l))
                have hfin : (.tuple #[WV m.1, .int .i64 m.2] : Value) = .tuple #[.agg #[.int .u64 fh, .int .u64 fl], .int .i64 (fitX (valN l))] := by
                  rw [← e1, ← HM.out, HPD.out]
                  unfold fitW fitX
                  by_cases h : valN l < T128
                  · rw [if_pos h, if_pos h, if_pos h]
                  · rw [if_neg h, if_neg h, if_neg h]
                rw [e1] at hf
                obtain ⟨E, hE⟩ : ∃ E, fitX (valN l) = E := ⟨_, rfl⟩
                rw [hE] at hf hfin
                have HFIN := Lib.hid hfin
                obtain ⟨N, hN⟩ : ∃ N, digs (valN l) = N := ⟨_, rfl⟩
                rw [hN] at hf IV ⊢
                have HF := Lib.hid hf
                clear hf e1 hE hfin hN
                rename_i r1 r2 r3
                clear r1 r2 r3
                go_wp2_with fail
                refine (HF.out _ IV.out).mono ?_
                rintro e w9 ⟨rfl, b9⟩
                have k0 := b9.cell (p := ⟨w.heap.size, 0, none⟩) (by omega)
                have k1 := b9.cell (p := ⟨w.heap.size, 1, none⟩) (by omega)
                have k2 := b9.frozen (p := ⟨w.heap.size, 0, none⟩) (by omega)
                have k3 := b9.frozen (p := ⟨w.heap.size, 1, none⟩) (by omega)
                have BF := Lib.hid (BB.out.trans (b9.mono (by omega)))
                clear b9
                go_wp2
                refine bodyPost_ret (v := .tuple #[.agg #[.int .u64 fh, .int .u64 fl], .int .i64 E]) (by simp [results, Try.results25, go_sem, *]) rfl ⟨by rw [HFIN.out], ?_⟩
                (repeat (first | with_reducible exact Below.refl _ _ | ((with_reducible refine Below.setCell ?_ ?_ _); rotate_left; (focus (first | omega | (simp; done) | (simp; omega)))) | ((with_reducible refine Below.alloc ?_ ?_ _); rotate_left; (focus (first | omega | (simp; done) | (simp; omega)))) | (with_reducible refine Below.drew ?_) | (with_reducible refine below_drewN ?_ _) | ((with_reducible refine Below.trans ?_ (Below.mono BF.out ?_)); rotate_left; (focus (first | omega | (simp; done) | (simp; omega))))))
end Go.Proofs.Yticpmcghdoiceaa
