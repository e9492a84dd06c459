/-
  Walks of copseref01: products.
-/
import Derived.Test.YticpmcghdoiceaaRefWhole
namespace Go.Proofs.Yticpmcghdoiceaa
open Go.RowKit

theorem Sm.len {m : Nat} (h : (digs m).length ≤ 1000) : Sm m := by unfold Sm; omega

theorem Ints.nil (k : IntKind) (w : World) : Ints k w (.slice none 0 0) [] := ⟨none, 0, rfl, by simp, by omega, by simp, fun i x h => by simp at h⟩

theorem digs_mul_len {m n : Nat} : (digs (m * n)).length ≤ (digs m).length + (digs n).length := by
  refine digs_len _ _ ?_
  rw [Nat.pow_add]
  exact Nat.mul_lt_mul'' (digs_lt_pow m) (digs_lt_pow n)

theorem made_ints' (k : IntKind) (n : Nat) : (madeCells #[.int k 0] n).toList = (List.replicate n (0 : Int)).map (Value.int k) := by
  have := made_ints k n
  rwa [Nat.mul_one] at this

theorem mulL_step {x c y : Int} {l : List Int} {j : Nat} (h : l[j]? = some y) : mulL x (l.drop j) c = (x * y + c) % 65536 :: mulL x (l.drop (j + 1)) ((x * y + c) / 65536) := by
  have hk : j < l.length := (List.getElem?_eq_some_iff.1 h).1
  rw [drop_getD hk, getD_of h]; rfl

theorem trimL_len (l : List Int) : (trimL l).length ≤ l.length := by
  unfold trimL
  rw [List.length_reverse]
  exact Nat.le_trans (List.dropWhile_suffix _).length_le (by simp)

theorem times_row {la : List Int} {k n : Nat} {x : Int} (hd : Dig la) (hx : la[k]? = some x) :
    ∃ R, trimL (List.replicate k 0 ++ mulL x (digs n) 0) = digs R ∧ bv (la.take k) * n + R = bv (la.take (k + 1)) * n ∧ (digs R).length ≤ k + (digs n).length + 1 := by
  obtain ⟨_, h2⟩ := times_step (n := n) hd hx
  have hx0 := hd x (List.mem_of_getElem? hx)
  obtain ⟨g1, g2⟩ := mulL_spec x hx0 (digs n) 0 (digs_dig n) (by omega)
  refine ⟨_, trimL_digs h2, ?_, ?_⟩
  · rw [bv_zeros, g2, bv_digs, bv_take_succ hx, Nat.add_mul, Nat.mul_assoc]; simp
  · rw [← trimL_digs h2]
    exact Nat.le_trans (trimL_len _) (by simp [mulL_len]; omega)

set_option maxRecDepth 100000 in
set_option maxHeartbeats 1000000 in
theorem times_any (va vb : Value) (m n : Nat) (w : World) (ha : Ints .i64 w va (digs m)) (hb : Ints .i64 w vb (digs n)) (hm : (digs m).length ≤ 1000) (hn : (digs n).length ≤ 1000) :
    Calls Try.prog 18 #[va, vb] w fun e w' => BigR w e w' (m * n) := by
  obtain ⟨la, hla⟩ : ∃ la, digs m = la := ⟨_, rfl⟩
  obtain ⟨lb, hlb⟩ : ∃ lb, digs n = lb := ⟨_, rfl⟩
  have da : Dig la := by rw [← hla]; exact digs_dig m
  have db : Dig lb := by rw [← hlb]; exact digs_dig n
  have va' : bv la = m := by rw [← hla]; exact bv_digs m
  rw [hla] at ha hm
  rw [hlb] at hb hn
  have MB := Lib.hid hlb; clear hlb hla
  have VA := Lib.hid va'; clear va'
  have DA := Lib.hid da; clear da
  have DB := Lib.hid db; clear db
  obtain ⟨aa, ca, rfl, _, _, h3, hA⟩ := ha
  obtain ⟨ab, cb, rfl, _, _, h3', hB⟩ := hb
  have HA := Lib.hid hA; clear hA
  have HB := Lib.hid hB; clear hB
  go_enter Try.func18, Try.ntmps18
  go_wp2
  go_loopw [5, 6] (fun v i wr => ∃ (k : Nat), i = .int .i64 k ∧ k ≤ la.length ∧ Ints .i64 wr v (digs (bv (la.take k) * n)) ∧ Fresh w.heap.size v ∧ Below w.heap.size w wr) (fun _ i _ => la.length - (intOf i).toNat)
  case atStart => exact ⟨0, rfl, by omega, by simp [bv, digs_zero]; exact Ints.nil _ _, fun a n c e _ => (by simp at e), Below.refl _ _⟩
  case round =>
    obtain ⟨k, rfl, hk, hv, hfv, hbl⟩ := hrel
    have HV := Lib.hid hv; clear hv
    have HF := Lib.hid hfv; clear hfv
    by_cases hlt : k < la.length
    · obtain ⟨x, hx⟩ := getElem?_ex hlt
      obtain ⟨b1, o1, rfl, hb1, hc1⟩ := HA.out k x hx
      have hxb := DA.out x (List.mem_of_getElem? hx)
      have HX := Lib.hid hx; clear hx
      obtain ⟨wo, rfl⟩ : ∃ wo : World, wo = wr := ⟨_, rfl⟩
      go_wp2_with (at_make; go_must (refine mkfull rfl _ _ 30 rfl Try.underlying30 eiInt wo.heap.size k (by rfl) (by rfl) (by rfl) (by rfl) (by omega) (Nat.le_refl _) ?_))
      intro wm hownm hbm _
      rw [made_ints'] at hownm
      go_wp2
      go_loopw [7, 8, 9] (fun v c i wr => ∃ (j : Nat) (r : List Int) (cc : Int), i = .int .i64 j ∧ c = .int .i64 cc ∧ 0 ≤ cc ∧ cc ≤ 65535 ∧ j ≤ lb.length ∧ r.length = k + j ∧ wr.ownsRow wo.heap.size 3 1 v r.length (r.map (.int .i64)) ∧ List.replicate k 0 ++ mulL x lb 0 = r ++ mulL x (lb.drop j) cc ∧ Below wo.heap.size wo wr) (fun _ _ i _ => lb.length - (intOf i).toNat)
      case atStart => exact ⟨0, List.replicate k 0, 0, rfl, rfl, by omega, by omega, by omega, by simp, by simpa using hownm, rfl, hbm⟩
      case round =>
        obtain ⟨j, r, cc, rfl, rfl, hc0, hc2, hj, hrl, hown, hl, hbi⟩ := hrel
        have hrl2 : r.length ≤ 2000 := by omega
        have HL := Lib.hid hl; clear hl
        have HRL := Lib.hid hrl; clear hrl
        have hbw : Below w.heap.size w wr := hbl.trans (hbi.mono hbl.size)
        by_cases hjl : j < lb.length
        · obtain ⟨y, hy⟩ := getElem?_ex hjl
          obtain ⟨b2, o2, rfl, hb2, hc3⟩ := HB.out j y hy
          have hyb := DB.out y (List.mem_of_getElem? hy)
          have HY := Lib.hid hy; clear hy
          have hp := prod_small hxb hyb ⟨hc0, hc2⟩
          have cx := (hbw.cell (p := ⟨b1, o1 + k, none⟩) hb1).trans hc1
          have cy := (hbw.cell (p := ⟨b2, o2 + j, none⟩) hb2).trans hc3
          clear hc3
          obtain ⟨q, hq⟩ : ∃ q, x * y = q := ⟨_, rfl⟩
          rw [hq] at hp
          have hw1 : IntKind.i64.wrap (x * y) = q := by rw [hq]; exact IntWalk.i64_in _ (by omega)
          have hw2 : IntKind.i64.wrap (q + cc) = q + cc := IntWalk.i64_in _ (by omega)
          have HQ := Lib.hid hq; clear hq
          go_wp2
          go_quiet (fail)
          clear hw1 hw2
          go_wp2_with (at_builtin; go_must (refine app1 rfl _ _ 30 rfl Try.underlying30 eiInt wo.heap.size (by rfl) hown (by rfl) rfl (by simp [Value.oneCell']) (by omega) hbi.size ?_))
          intro v' w' hown' hb' _
          go_wp2
          go_roundw
          case rel =>
            refine ⟨j + 1, r ++ [(q + cc) % 65536], (q + cc) / 65536, by go_num, rfl, by omega, by omega, by omega, by simp [HRL.out]; omega, by simpa using hown', ?_, (below_drewN hbi nq).trans hb'⟩
            rw [HL.out, mulL_step HY.out, HQ.out]; simp
          case measure => simp [intOf] <;> omega
        · obtain rfl : j = lb.length := by omega
          have he := HL.out
          rw [List.drop_of_length_le (l := lb) (Nat.le_refl _)] at he
          simp only [mulL] at he
          have HE := Lib.hid he; clear he
          obtain ⟨R, hR1, hR2, hR3⟩ := times_row (n := n) DA.out HX.out
          rw [MB.out, HE.out] at hR1
          rw [MB.out] at hR3
          have hR4 : (digs (bv (la.take k) * n)).length ≤ 2000 := by
            have := digs_mul_len (m := bv (la.take k)) (n := n)
            have h1 := digs_len (bv (la.take k)) k (by have := bv_lt (dig_take DA.out k); rwa [List.length_take, Nat.min_eq_left (by omega)] at this)
            rw [MB.out] at this
            omega
          have hR5 : (digs (bv (la.take k) * n)).length + (digs R).length ≤ 1000000 := by omega
          have HR1 := Lib.hid hR1; clear hR1
          have HR2 := Lib.hid hR2; clear hR2
          have HR5 := Lib.hid hR5; clear hR5 hR3 hR4
          go_wp2_with (at_builtin; go_must (refine app1 rfl _ _ 30 rfl Try.underlying30 eiInt wo.heap.size (by rfl) hown (by rfl) rfl (by simp [Value.oneCell']) (by omega) hbi.size ?_))
          intro v' w' hown' hb' _
          have hown2 : w'.ownsRow wo.heap.size 3 1 v' (r.length + 1) ((r ++ [cc]).map (.int .i64)) := by simpa using hown'
          obtain ⟨g1, g2⟩ := Ints.own hown2 (by simp; omega)
          have hbo : Below wo.heap.size wo w' := hbi.trans hb'
          have hbw' : Below w.heap.size w w' := hbl.trans (hbo.mono hbl.size)
          clear hown hown' hown2
          go_wp2_with fail
          refine (trim_any _ _ _ g2).mono ?_
          rintro e w1 ⟨vt, rfl, hvt, hft, rfl⟩
          rw [HR1.out] at hvt
          go_wp2_with fail
          refine (plus_any _ _ _ _ _ (HV.out.below hbo) hvt HR5.out).mono ?_
          rw [HR2.out]
          rintro e w1 ⟨vp, rfl, hvp, hfp, hbp⟩
          go_wp2
          go_roundw
          case rel => exact ⟨k + 1, by go_num, by omega, hvp, hfp.mono hbw'.size, hbw'.trans (hbp.mono hbw'.size)⟩
          case measure => simp [intOf] <;> omega
    · obtain rfl : k = la.length := by omega
      go_wp2
      go_ret
      have e0 : bv (la.take la.length) = m := by rw [List.take_length, VA.out]
      have := HV.out
      rw [e0] at this
      exact ⟨_, rfl, this, HF.out, hbl⟩
end Go.Proofs.Yticpmcghdoiceaa
