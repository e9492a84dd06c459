/-
  Walk of the reader's method that reads a number (layer 21).
-/
import Derived.Test.YtfbodloidogliaaBinJ
import Derived.Laws.Bits64b
namespace Go.Proofs.Ytfbodloidogliaa
open Go.RowKit

theorem one_of {l : List Int} {a : Nat} {f : Int} (h : l[a]? = some f) : (l.drop a).take 1 = [f] := by
  have hal : a < l.length := (List.getElem?_eq_some_iff.1 h).1
  rw [List.drop_eq_getElem_cons hal]
  rw [List.getElem?_eq_getElem hal] at h
  rw [List.take_succ_cons, List.take_zero, Option.some.inj h]

theorem Ints.one {k : IntKind} {w : World} {v : Value} {f : Int} (h : Ints k w v [f]) : ∃ b o c, v = .slice (some ⟨b, o, none⟩) 1 c ∧ w.cell? ⟨b, o, none⟩ = some (.int k f) ∧ b < w.heap.size := by
  obtain ⟨a, c, rfl, _, _, _, h4⟩ := h
  obtain ⟨b, o, rfl, hlt, hc⟩ := h4 0 f rfl
  exact ⟨b, o, c, rfl, hc, hlt⟩

theorem or_byte {n : Nat} {x : Int} (hn : n < 72057594037927936) (hx : 0 ≤ x ∧ x ≤ 255) : Value.int .u64 (bits BinOp.or IntKind.u64 ((n : Int) * 256) x) = Value.int .u64 ((n * 256 + x.toNat : Nat) : Int) := by
  obtain ⟨y, rfl⟩ := Int.eq_ofNat_of_zero_le hx.1
  have h1 := bits_or_u64_nat (n * 256) y (by omega) (by omega)
  rw [show ((n : Int) * 256) = ((n * 256 : Nat) : Int) by omega, h1]
  have h2 := Nat.two_pow_add_eq_or_of_lt (i := 8) (b := y) (by omega) n
  rw [show n * 256 = 2 ^ 8 * n by omega, ← h2, Int.toNat_natCast]

/-- What a method that reads a number does. -/
def RdU (w : World) (R : Nat) (v : Value) (l : List Int) (r : Nat × Nat × Int) (e : Ending) (w' : World) : Prop := e = .returned (.int .u64 (r.1 : Int)) ∧ RdTo w R v l w' r.2.1 r.2.2

theorem RdTo.trans {w w1 w2 : World} {R : Nat} {v : Value} {l : List Int} {a a' : Nat} {e e' : Int} (h : RdTo w R v l w1 a e) (k : RdTo w1 R v l w2 a' e') : RdTo w R v l w2 a' e' := ⟨k.1, only_trans h.2 k.2⟩

set_option maxRecDepth 100000 in
set_option maxHeartbeats 2000000 in
theorem readU_any {w : World} {R : Nat} {v : Value} {l : List Int} {a : Nat} (h : Rd w R v l a 0) (hb : AllB l) (ha : a ≤ l.length) (hl : l.length ≤ 100000) :
    Calls Try.prog 65 #[.pointer (some ⟨R, 0, none⟩)] w fun e w' => RdU w R v l (rdU l a) e w' := by
  have H := Lib.hid h
  obtain ⟨c0, c1, c2, f1, f2⟩ := h.cells
  clear h
  cases hf : l[a]? with
  | none =>
    have hr : rdU l a = (0, a, 210) := by unfold rdU; rw [hf]
    rw [hr]
    have hal : l.length ≤ a := by
      rcases Nat.lt_or_ge a l.length with hlt | hge
      · rw [List.getElem?_eq_getElem hlt] at hf; cases hf
      · exact hge
    clear hr hf
    go_enter_defers Try.func65, Try.ntmps65
    go_wp2_with fail
    refine (dead_no H.out).mono ?_
    rintro e w1 ⟨rfl, rfl⟩
    go_wp2_with fail
    refine (take_short H.out ha hl 1 (by omega)).mono ?_
    rintro e w1 ⟨rfl, h1⟩
    have H1 := Lib.hid h1
    clear h1
    go_wp2_with fail
    refine (dead_yes H1.out.1 (by omega)).mono ?_
    rintro e w2 ⟨rfl, rfl⟩
    go_wp2
    refine leaves_cons (f := 93) (args := #[.pointer (some ⟨R, 0, none⟩), .int .i64 a]) (by simp) (by simp [go_sem]) ?_
    refine (back_rd .returning a H1.out.1).mono ?_
    rintro e u' w'' ⟨rfl, rfl, h2⟩
    exact ⟨_, results_tmp rfl _ _ _, rfl, H1.out.trans h2⟩
  | some f =>
    have hal : a < l.length := (List.getElem?_eq_some_iff.1 hf).1
    have hfb := hb f (List.mem_of_getElem? hf)
    have h1f := one_of hf
    have HT := Lib.hid (take_yes (n := 1) H.out hl (by omega))
    rw [h1f] at HT
    clear h1f
    by_cases hs : f < 240
    · have hr : rdU l a = (f.toNat, a + 1, 0) := by unfold rdU; rw [hf]; simp only [if_pos hs]
      rw [hr]
      clear hr hf
      obtain ⟨k, rfl⟩ := Int.eq_ofNat_of_zero_le hfb.1
      rw [Int.toNat_natCast]
      go_enter_defers Try.func65, Try.ntmps65
      go_wp2_with fail
      refine (dead_no H.out).mono ?_
      rintro e w1 ⟨rfl, rfl⟩
      go_wp2_with fail
      refine HT.out.mono ?_
      rintro e w1 ⟨v1, rfl, hi, h1⟩
      obtain ⟨b, o, c, rfl, hc, hlt⟩ := hi.one
      have H1 := Lib.hid h1
      clear h1 hi
      go_wp2_with fail
      refine (dead_no H1.out.1).mono ?_
      rintro e w2 ⟨rfl, rfl⟩
      go_wp2
      refine leaves_cons (f := 93) (args := #[.pointer (some ⟨R, 0, none⟩), .int .i64 a]) (by simp) (by simp [go_sem]) ?_
      refine (back_rd .returning a H1.out.1).mono ?_
      rintro e u' w'' ⟨rfl, rfl, h2⟩
      exact ⟨_, results_tmp rfl _ _ _, rfl, H1.out.trans h2⟩
    · obtain ⟨k, rfl⟩ := Int.eq_ofNat_of_zero_le hfb.1
      by_cases h247 : (247 : Int) < k
      · have hr : rdU l a = (0, a, 211) := by unfold rdU; rw [hf]; simp only [if_neg hs, if_pos h247]
        rw [hr]
        clear hr hf
        go_enter_defers Try.func65, Try.ntmps65
        go_wp2_with fail
        refine (dead_no H.out).mono ?_
        rintro e w1 ⟨rfl, rfl⟩
        go_wp2_with fail
        refine HT.out.mono ?_
        rintro e w1 ⟨v1, rfl, hi, h1⟩
        obtain ⟨b, o, c, rfl, hc, hlt⟩ := hi.one
        obtain ⟨d0, d1, d2, g1, g2⟩ := h1.1.cells
        have H1 := Lib.hid h1
        clear h1 hi
        go_wp2_with fail
        refine (dead_no H1.out.1).mono ?_
        rintro e w2 ⟨rfl, rfl⟩
        go_wp2
        refine leaves_cons (f := 93) (args := #[.pointer (some ⟨R, 0, none⟩), .int .i64 a]) (by simp) (by simp [go_sem]) ?_
        have h2 := H1.out.1.set2 211
        refine (back_rd .returning a h2).mono ?_
        rintro e u' w'' ⟨rfl, rfl, h3⟩
        exact ⟨_, results_tmp rfl _ _ _, rfl, RdTo.trans ⟨h2, only_trans H1.out.2 (only_set _ _ _ _)⟩ h3⟩
      · obtain ⟨m, rfl⟩ : ∃ m, k = 239 + m := ⟨k - 239, by omega⟩
        have hm : ((239 + m : Nat) : Int) - 239 = m := by omega
        have hr : rdU l a = if l.length < a + 1 + m then (0, a, 210) else if (putsU (numB ((l.drop (a + 1)).take m))).length = m + 1 then (numB ((l.drop (a + 1)).take m), a + 1 + m, 0) else (0, a, 211) := by
          unfold rdU; rw [hf]; simp only [if_neg hs, if_neg h247, hm, Int.toNat_natCast]
        rw [hr]
        clear hr hf hm
        by_cases hsh : l.length < a + 1 + m
        · rw [if_pos hsh]
          go_enter_defers Try.func65, Try.ntmps65
          go_wp2_with fail
          refine (dead_no H.out).mono ?_
          rintro e w1 ⟨rfl, rfl⟩
          go_wp2_with fail
          refine HT.out.mono ?_
          rintro e w1 ⟨v1, rfl, hi, h1⟩
          obtain ⟨b, o, c, rfl, hc, hlt⟩ := hi.one
          have H1 := Lib.hid h1
          clear h1 hi
          go_wp2_with fail
          refine (dead_no H1.out.1).mono ?_
          rintro e w2 ⟨rfl, rfl⟩
          go_wp2_with fail
          refine (take_short H1.out.1 (by omega) hl _ (by omega)).mono ?_
          rintro e w2 ⟨rfl, h2⟩
          have H2 := Lib.hid (H1.out.trans h2)
          clear h2
          go_wp2_with fail
          go_loop [4, 44] (fun n i => n = .int .u64 0 ∧ i = .int .i64 0) (fun _ _ => 0)
          case atStart => exact ⟨rfl, rfl⟩
          case round =>
            obtain ⟨rfl, rfl⟩ := hrel
            go_wp2_with fail
            refine (dead_yes H2.out.1 (by omega)).mono ?_
            rintro e w3 ⟨rfl, rfl⟩
            go_wp2_with fail
            refine (dead_yes H2.out.1 (by omega)).mono ?_
            rintro e w3 ⟨rfl, rfl⟩
            go_wp2
            refine leaves_cons (f := 93) (args := #[.pointer (some ⟨R, 0, none⟩), .int .i64 a]) (by simp) (by simp [go_sem]) ?_
            refine (back_rd .returning a H2.out.1).mono ?_
            rintro e u' w'' ⟨rfl, rfl, h3⟩
            exact ⟨_, results_tmp rfl _ _ _, rfl, H2.out.trans h3⟩
        · rw [if_neg hsh]
          obtain ⟨r, hr⟩ : ∃ r, (if (putsU (numB ((l.drop (a + 1)).take m))).length = m + 1 then (numB ((l.drop (a + 1)).take m), a + 1 + m, (0 : Int)) else (0, a, 211)) = r := ⟨_, rfl⟩
          rw [hr]
          have hdl : ((l.drop (a + 1)).take m).length = m := by simp; omega
          have hdb : AllB ((l.drop (a + 1)).take m) := fun x hx => hb x (List.mem_of_mem_drop (List.mem_of_mem_take hx))
          generalize hDD : (l.drop (a + 1)).take m = D at *
          have hm1 : 1 ≤ m := by omega
          have hm8 : m ≤ 8 := by omega
          obtain ⟨x0, hx0⟩ := getElem?_ex (l := D) (k := 0) (by omega)
          have hx0b := hdb x0 (List.mem_of_getElem? hx0)
          have htest := rdU_test hdb (by omega) (by omega)
          rw [hdl, hx0] at htest
          have hT2 : ∀ w1, RdTo w R v l w1 (a + 1) 0 → Calls Try.prog 94 #[.pointer (some ⟨R, 0, none⟩), .int .i64 (m : Int)] w1 fun e w' => ∃ v', e = .returned v' ∧ Ints .u8 w' v' D ∧ RdTo w1 R v l w' (a + 1 + m) 0 := fun w1 h1 => by
            have := take_yes (n := m) h1.1 hl (by omega)
            rwa [hDD] at this
          have HT2 := Lib.hid hT2
          have HTT := Lib.hid htest
          have HR := Lib.hid hr
          have HX0 := Lib.hid hx0
          have HDL := Lib.hid hdl
          have HDB := Lib.hid hdb
          clear hT2 htest hx0 hdl hdb hDD hr
          go_enter_defers Try.func65, Try.ntmps65
          go_wp2_with fail
          refine (dead_no H.out).mono ?_
          rintro e w1 ⟨rfl, rfl⟩
          go_wp2_with fail
          refine HT.out.mono ?_
          rintro e w1 ⟨v1, rfl, hi, h1⟩
          obtain ⟨b, o, c, rfl, hc, hlt⟩ := hi.one
          have H1 := Lib.hid h1
          clear h1 hi
          go_wp2_with fail
          refine (dead_no H1.out.1).mono ?_
          rintro e w2 ⟨rfl, rfl⟩
          go_wp2_with fail
          rw [show (239 + (m : Int) - 240 + 1) = m by omega]
          refine (HT2.out w1 H1.out).mono ?_
          rintro e w2 ⟨v2, rfl, hi2, h2⟩
          have H2 := Lib.hid (H1.out.trans h2)
          obtain ⟨ad2, c2', rfl, e1, e2, e3, hcell⟩ := hi2
          rw [HDL.out] at e1 e3 ⊢
          have HC := Lib.hid hcell
          clear h2 hcell
          go_wp2_with fail
          go_loop [4, 44] (fun n i => ∃ k : Nat, k ≤ m ∧ i = .int .i64 k ∧ n = .int .u64 (numB (D.take k) : Int)) (fun _ i => m - (intOf i).toNat)
          case atStart => exact ⟨0, Nat.zero_le _, rfl, rfl⟩
          case round =>
            obtain ⟨k, hk, rfl, rfl⟩ := hrel
            by_cases hlt' : k < m
            · obtain ⟨x, hx⟩ := getElem?_ex (l := D) (k := k) (by rw [HDL.out]; exact hlt')
              have hxb := HDB.out x (List.mem_of_getElem? hx)
              obtain ⟨b2, o2, rfl, hlt2, hc2⟩ := HC.out k x hx
              have hstep : numB (D.take (k + 1)) = numB (D.take k) * 256 + x.toNat := by rw [take_snoc' hx, numB_snoc]
              have hNk : numB (D.take k) < 72057594037927936 := by
                have h1 := numB_lt (D.take k) fun y hy => HDB.out y (List.mem_of_mem_take hy)
                have h2 : (D.take k).length ≤ 7 := by simp; omega
                exact Nat.lt_of_lt_of_le h1 (Nat.le_trans (Nat.pow_le_pow_right (by omega) h2) (by decide))
              have HS := Lib.hid hstep
              clear hstep hx
              go_wp2
              go_round
              case rel => exact ⟨k + 1, by omega, by go_num, by rw [HS.out]; exact or_byte hNk hxb⟩
              case measure => simp [intOf]; omega
            · obtain rfl : k = m := by omega
              have hfull : numB (D.take k) = numB D := by rw [List.take_of_length_le (by rw [HDL.out]; exact Nat.le_refl _)]
              rw [hfull]
              obtain ⟨b2, o2, rfl, hlt2, hc2⟩ := HC.out 0 x0 HX0.out
              rw [Nat.add_zero] at hc2
              clear hfull
              obtain ⟨d0, d1, d2, g1, g2⟩ := H2.out.1.cells
              by_cases hz : x0 = 0
              · subst hz
                have hno : ¬ (putsU (numB D)).length = k + 1 := fun hc => HTT.out.1 hc (.inl rfl)
                have HN := Lib.hid hno
                clear hno
                go_wp2_with fail
                refine (dead_no H2.out.1).mono ?_
                rintro e w3 ⟨rfl, rfl⟩
                go_wp2_with fail
                refine (dead_yes (H2.out.1.set2 211) (by omega)).mono ?_
                rintro e w3 ⟨rfl, rfl⟩
                go_wp2
                refine leaves_cons (f := 93) (args := #[.pointer (some ⟨R, 0, none⟩), .int .i64 a]) (by simp) (by simp [go_sem]) ?_
                refine (back_rd .returning a (H2.out.1.set2 211)).mono ?_
                rintro e u' w'' ⟨rfl, rfl, h3⟩
                have hr := HR.out
                rw [if_neg HN.out] at hr
                subst hr
                exact ⟨_, results_tmp rfl _ _ _, rfl, RdTo.trans ⟨H2.out.1.set2 211, only_trans H2.out.2 (only_set _ _ _ _)⟩ h3⟩
              · have hzb : (x0 == 0) = false := by simpa using hz
                by_cases hlow : numB D < 240
                · have hno : ¬ (putsU (numB D)).length = k + 1 := fun hc => HTT.out.1 hc (.inr hlow)
                  have HN := Lib.hid hno
                  have hlow' : (numB D : Int) < 240 := by omega
                  clear hno
                  go_wp2_with fail
                  refine (dead_no H2.out.1).mono ?_
                  rintro e w3 ⟨rfl, rfl⟩
                  go_wp2_with fail
                  refine (dead_yes (H2.out.1.set2 211) (by omega)).mono ?_
                  rintro e w3 ⟨rfl, rfl⟩
                  go_wp2
                  refine leaves_cons (f := 93) (args := #[.pointer (some ⟨R, 0, none⟩), .int .i64 a]) (by simp) (by simp [go_sem]) ?_
                  refine (back_rd .returning a (H2.out.1.set2 211)).mono ?_
                  rintro e u' w'' ⟨rfl, rfl, h3⟩
                  have hr := HR.out
                  rw [if_neg HN.out] at hr
                  subst hr
                  exact ⟨_, results_tmp rfl _ _ _, rfl, RdTo.trans ⟨H2.out.1.set2 211, only_trans H2.out.2 (only_set _ _ _ _)⟩ h3⟩
                · have hyes : (putsU (numB D)).length = k + 1 := HTT.out.2 (by rintro (h | h); exact hz (by simpa using h); exact hlow h)
                  have HY := Lib.hid hyes
                  have hlow' : ¬ (numB D : Int) < 240 := by omega
                  clear hyes
                  go_wp2_with fail
                  refine (dead_no H2.out.1).mono ?_
                  rintro e w3 ⟨rfl, rfl⟩
                  go_wp2_with fail
                  refine (dead_no H2.out.1).mono ?_
                  rintro e w3 ⟨rfl, rfl⟩
                  go_wp2
                  refine leaves_cons (f := 93) (args := #[.pointer (some ⟨R, 0, none⟩), .int .i64 a]) (by simp) (by simp [go_sem]) ?_
                  refine (back_rd .returning a H2.out.1).mono ?_
                  rintro e u' w'' ⟨rfl, rfl, h3⟩
                  have hr := HR.out
                  rw [if_pos HY.out] at hr
                  subst hr
                  exact ⟨_, results_tmp rfl _ _ _, rfl, H2.out.trans h3⟩
end Go.Proofs.Ytfbodloidogliaa
