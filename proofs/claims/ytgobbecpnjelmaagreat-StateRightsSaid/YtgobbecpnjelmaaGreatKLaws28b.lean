/-
  Laws28b: The walk of StateRights.
-/
import Derived.Test.YtgobbecpnjelmaaGreatJ5a
namespace Go.Proofs.YtgobbecpnjelmaaGreat
open Go.RowKit

theorem loadRun {P : Program} {dst : Option Nat} {tp : TypeId} {pos : String} {af : Array Edge} {gd : Option (Nat × Bool)} {x : Operand} {a : Act} {w : World} {b : Nat} {T : TypeId} {cells : Array Value} (ty : TypeId)
    (hx : a.eval x = .pointer (some ⟨b, 0, none⟩)) (hr : RowAt w b T cells) {d : TypeDesc} (hu : P.underlying ty = some d) (hd : d.isRow = true) (hi : (P.info? ty).map (·.size) = some cells.size) :
    (execOp a.eval { dst := dst, op := .load ty x, type := tp, pos := pos, after := af, guard := gd }).run P w = .ok (.value (.agg cells)) w := by
  have := run_loadVar_mid (P := P) w b 0 ty cells.toList d hr.range hu hd (by simpa using hi)
  unfold execOp
  simp only [hx, Instr.loadAt, Instr.sureAddr, Sem.run_bind, Sem.run_pure, Result.andThen_ok, this, Array.toArray_toList]

/-- The two states, and the two lines. -/
def Hold (w : World) (p q r u : Nat) (cs ds : Array Value) (X Y : Int) : Prop := RowAt w p 28 cs ∧ RowAt w q 28 ds ∧ RowAt w r 32 #[.int .i64 X, .int .i64 Y] ∧ RowAt w u 32 #[.int .i64 X, .int .i64 Y]

theorem Hold.below {w w' : World} {p q r u : Nat} {cs ds : Array Value} {X Y : Int} (h : Hold w p q r u cs ds X Y) (b : Below w.heap.size w w') : Hold w' p q r u cs ds X Y :=
  ⟨h.1.keep b h.1.lt, h.2.1.keep b h.2.1.lt, h.2.2.1.keep b h.2.2.1.lt, h.2.2.2.keep b h.2.2.2.lt⟩

set_option maxRecDepth 100000 in
set_option maxHeartbeats 64000000 in
theorem stateRights_mid (c0 c1 c2 c3 c4 c5 c6 c7 c8 c9 c10 : Int) (count last seq : Int) (d0 d1 d2 d3 d4 d5 d6 d7 d8 d9 d10 : Int) (count2 last2 seq2 : Int) (wa fa aa wa2 fa2 aa2 : Option Addr) (wn wc fn fc an ac wn2 wc2 fn2 fc2 an2 ac2 : Nat) (win win2 : List SeenT) (f f2 : List (TreeP × Int)) (al al2 : List AlertT) (w : World) (hw6 : Ok64 c6) (hw7 : Ok64 c7)
    (hS : ArgSeens w (.slice wa wn wc) win) (hwn : win.length = wn) (hG : ArgGrowns w (.slice fa fn fc) f) (hfn : f.length = fn) (hA : ArgAlerts w (.slice aa an ac) al) (han : al.length = an)
    (hS2 : ArgSeens w (.slice wa2 wn2 wc2) win2) (_hwn2 : win2.length = wn2) (hG2 : ArgGrowns w (.slice fa2 fn2 fc2) f2) (_hfn2 : f2.length = fn2) (hA2 : ArgAlerts w (.slice aa2 an2 ac2) al2) (han2 : al2.length = an2) :
    Calls Tryz.prog 3 #[.agg #[.int .i64 c0, .int .i64 c1, .int .i64 c2, .int .i64 c3, .int .i64 c4, .int .i64 c5, .int .i64 c6, .int .i64 c7, .int .i64 c8, .int .i64 c9, .int .i64 c10, .int .i64 count, .int .i64 last, .int .i64 seq, .slice wa wn wc, .slice fa fn fc, .slice aa an ac], .agg #[.int .i64 d0, .int .i64 d1, .int .i64 d2, .int .i64 d3, .int .i64 d4, .int .i64 d5, .int .i64 d6, .int .i64 d7, .int .i64 d8, .int .i64 d9, .int .i64 d10, .int .i64 count2, .int .i64 last2, .int .i64 seq2, .slice wa2 wn2 wc2, .slice fa2 fn2 fc2, .slice aa2 an2 ac2]] w fun e w' => e = .returned (.bool true) ∧ Below w.heap.size w w' := by
  have HM1 := Lib.hid (fun W (b : Below w.heap.size w W) => rmuch28_any c0 c1 c2 c3 c4 c5 c6 c7 c8 c9 c10 count last seq (.slice wa wn wc) (.slice fa fn fc) aa an ac win f al W (hS.below b) (hG.below b) han)
  have HM2 := Lib.hid (fun W (b : Below w.heap.size w W) => rmuch28_any d0 d1 d2 d3 d4 d5 d6 d7 d8 d9 d10 count2 last2 seq2 (.slice wa2 wn2 wc2) (.slice fa2 fn2 fc2) aa2 an2 ac2 win2 f2 al2 W (hS2.below b) (hG2.below b) han2)
  have HQ1 := Lib.hid (fun (h : muchSt win f al = false) => And.intro (hS.seens (muchSt_small h).1.1 (muchSt_small h).1.2) (And.intro (hG.growns28 (muchSt_small h).2.1) (hA.alerts (muchSt_small h).2.2)))
  have HQ2 := Lib.hid (fun (h : muchSt win2 f2 al2 = false) => And.intro (hS2.seens (muchSt_small h).1.1 (muchSt_small h).1.2) (And.intro (hG2.growns28 (muchSt_small h).2.1) (hA2.alerts (muchSt_small h).2.2)))
  have HWB := Lib.hid (fun (h : muchSt win f al = false) => show wn ≤ 1000 from by have := (muchSt_small h).1.1; omega)
  obtain ⟨M1, hM1⟩ : ∃ M, muchSt win f al = M := ⟨_, rfl⟩
  obtain ⟨M2, hM2⟩ : ∃ M, muchSt win2 f2 al2 = M := ⟨_, rfl⟩
  rw [hM1] at HM1 HQ1 HWB
  rw [hM2] at HM2 HQ2
  clear hM1 hM2 hS hG hA hS2 hG2 hA2
  cases M1 with
  | true =>
    clear HM2 HQ1 HQ2 HWB hwn hfn han _hwn2 _hfn2 han2 hw6 hw7
    go_enter Tryz.func3, Tryz.ntmps3
    go_upto_region 1 with fail
    have R2 := Lib.hid ((rowz_new (W := w) (T := 28) (cs := #[.int .i64 c0, .int .i64 c1, .int .i64 c2, .int .i64 c3, .int .i64 c4, .int .i64 c5, .int .i64 c6, .int .i64 c7, .int .i64 c8, .int .i64 c9, .int .i64 c10, .int .i64 count, .int .i64 last, .int .i64 seq, .slice wa wn wc, .slice fa fn fc, .slice aa an ac]) rfl).alloc (.cells #[.int .i64 d0, .int .i64 d1, .int .i64 d2, .int .i64 d3, .int .i64 d4, .int .i64 d5, .int .i64 d6, .int .i64 d7, .int .i64 d8, .int .i64 d9, .int .i64 d10, .int .i64 count2, .int .i64 last2, .int .i64 seq2, .slice wa2 wn2 wc2, .slice fa2 fn2 fc2, .slice aa2 an2 ac2] 28))
    have R3 := Lib.hid (rowz_new (W := w.alloc (.cells #[.int .i64 c0, .int .i64 c1, .int .i64 c2, .int .i64 c3, .int .i64 c4, .int .i64 c5, .int .i64 c6, .int .i64 c7, .int .i64 c8, .int .i64 c9, .int .i64 c10, .int .i64 count, .int .i64 last, .int .i64 seq, .slice wa wn wc, .slice fa fn fc, .slice aa an ac] 28)) (T := 28) (cs := #[.int .i64 d0, .int .i64 d1, .int .i64 d2, .int .i64 d3, .int .i64 d4, .int .i64 d5, .int .i64 d6, .int .i64 d7, .int .i64 d8, .int .i64 d9, .int .i64 d10, .int .i64 count2, .int .i64 last2, .int .i64 seq2, .slice wa2 wn2 wc2, .slice fa2 fn2 fc2, .slice aa2 an2 ac2]) (b := w.heap.size + 1) (by simp))
    refine wp_region_lit ?_
    refine loadRow rfl 28 _ rfl R2.out (by rfl) Tryz.underlying28 rfl (by kernel_rfl) ?_
    (try simp only [Act.put, List.setIfInBounds_toArray, List.set_cons_zero, List.set_cons_succ])
    go_wp2_with fail
    (with_reducible refine (HM1.out _ bw).mono ?_)
    rintro e w1 ⟨rfl, b1⟩
    have s1 : w.heap.size + 1 + 1 ≤ w1.heap.size := sz b1
    have B1 := Lib.hid (Bc (B := w.heap.size) (a := w) bw b1)
    clear b1
    go_wp2_with fail
    (with_reducible refine (lives28_any _).mono ?_)
    rintro e w2 ⟨rfl, b2⟩
    have s2 : w1.heap.size ≤ w2.heap.size := sz b2
    have B2 := Lib.hid (Bc (B := w.heap.size) (a := w) (bx B1.out) b2)
    clear b2
    go_wp2_with fail
    go_ret
    exact ⟨rfl, bx B2.out⟩
  | false =>
    cases M2 with
    | true =>
      clear HQ1 HQ2 HWB hwn hfn han _hwn2 _hfn2 han2 hw6 hw7
      go_enter Tryz.func3, Tryz.ntmps3
      go_upto_region 1 with fail
      have R2 := Lib.hid ((rowz_new (W := w) (T := 28) (cs := #[.int .i64 c0, .int .i64 c1, .int .i64 c2, .int .i64 c3, .int .i64 c4, .int .i64 c5, .int .i64 c6, .int .i64 c7, .int .i64 c8, .int .i64 c9, .int .i64 c10, .int .i64 count, .int .i64 last, .int .i64 seq, .slice wa wn wc, .slice fa fn fc, .slice aa an ac]) rfl).alloc (.cells #[.int .i64 d0, .int .i64 d1, .int .i64 d2, .int .i64 d3, .int .i64 d4, .int .i64 d5, .int .i64 d6, .int .i64 d7, .int .i64 d8, .int .i64 d9, .int .i64 d10, .int .i64 count2, .int .i64 last2, .int .i64 seq2, .slice wa2 wn2 wc2, .slice fa2 fn2 fc2, .slice aa2 an2 ac2] 28))
      have R3 := Lib.hid (rowz_new (W := w.alloc (.cells #[.int .i64 c0, .int .i64 c1, .int .i64 c2, .int .i64 c3, .int .i64 c4, .int .i64 c5, .int .i64 c6, .int .i64 c7, .int .i64 c8, .int .i64 c9, .int .i64 c10, .int .i64 count, .int .i64 last, .int .i64 seq, .slice wa wn wc, .slice fa fn fc, .slice aa an ac] 28)) (T := 28) (cs := #[.int .i64 d0, .int .i64 d1, .int .i64 d2, .int .i64 d3, .int .i64 d4, .int .i64 d5, .int .i64 d6, .int .i64 d7, .int .i64 d8, .int .i64 d9, .int .i64 d10, .int .i64 count2, .int .i64 last2, .int .i64 seq2, .slice wa2 wn2 wc2, .slice fa2 fn2 fc2, .slice aa2 an2 ac2]) (b := w.heap.size + 1) (by simp))
      refine wp_region_lit ?_
      refine loadRow rfl 28 _ rfl R2.out (by rfl) Tryz.underlying28 rfl (by kernel_rfl) ?_
      (try simp only [Act.put, List.setIfInBounds_toArray, List.set_cons_zero, List.set_cons_succ])
      go_wp2_with fail
      (with_reducible refine (HM1.out _ bw).mono ?_)
      rintro e w1 ⟨rfl, b1⟩
      have s1 : w.heap.size + 1 + 1 ≤ w1.heap.size := sz b1
      have B1 := Lib.hid (Bc (B := w.heap.size) (a := w) bw b1)
      have R2 := Lib.hid (RowAt.keep R2.out b1 (by first | omega | (simp; done) | (simp; omega)))
      have R3 := Lib.hid (RowAt.keep R3.out b1 (by first | omega | (simp; done) | (simp; omega)))
      clear b1
      dsimp only
      have hKK := ‹∀ (a : Act) (w : World), wpList _ _ _ _ a w → _›
      refine hKK _ _ ?_
      clear hKK
      (try simp only [Act.put, List.setIfInBounds_toArray, List.set_cons_zero, List.set_cons_succ])
      refine seqTk (v := ?_) rfl ?_ ?_; rotate_left 2; (focus (first | (go_simp; done) | (go_simp; with_reducible rfl))); (try simp only [Act.put, List.setIfInBounds_toArray, List.set_cons_zero, List.set_cons_succ])
      refine seqLoadRow rfl 28 _ rfl (by rfl) (show RowAt _ (w.heap.size + 1) 28 _ from R3.out.keep (B := w1.heap.size) bw (by first | omega | (simp; done) | (simp; omega))).range Tryz.underlying28 rfl (by kernel_rfl) ?_
      (try simp only [Act.put, List.setIfInBounds_toArray, List.set_cons_zero, List.set_cons_succ])
      go_wp2_with fail
      (with_reducible refine (HM2.out _ (bx B1.out)).mono ?_)
      rintro e w2 ⟨rfl, b2⟩
      have s2 : w1.heap.size ≤ w2.heap.size := sz b2
      have B2 := Lib.hid (Bc (B := w.heap.size) (a := w) (bx B1.out) b2)
      have R2 := Lib.hid (RowAt.keep (show RowAt _ w.heap.size 28 _ from R2.out.keep (B := w1.heap.size) bw (by first | omega | (simp; done) | (simp; omega))) b2 (by first | omega | (simp; done) | (simp; omega)))
      have R3 := Lib.hid (RowAt.keep (show RowAt _ (w.heap.size + 1) 28 _ from R3.out.keep (B := w1.heap.size) bw (by first | omega | (simp; done) | (simp; omega))) b2 (by first | omega | (simp; done) | (simp; omega)))
      clear b2
      go_wp2_with fail
      (with_reducible refine (lives28_any _).mono ?_)
      rintro e w3 ⟨rfl, b3⟩
      have s3 : w2.heap.size ≤ w3.heap.size := sz b3
      have B3 := Lib.hid (Bc (B := w.heap.size) (a := w) (bx B2.out) b3)
      clear b3
      go_wp2_with fail
      go_ret
      exact ⟨rfl, bx B3.out⟩
    | false =>
      obtain ⟨hS, hG, hA⟩ := HQ1.out rfl
      obtain ⟨hS2, hG2, hA2⟩ := HQ2.out rfl
      have hwb := HWB.out rfl
      obtain ⟨⟨⟨X, Y⟩, Z⟩, hL⟩ : ∃ r, lineT ⟨c0, c1, c2, c3, c4, c5, c6, c7, c8, c9, c10, count, last, seq, win, f, al⟩ = r := ⟨_, rfl⟩
      obtain ⟨RB, hRB⟩ : ∃ r, stateB ⟨c0, c1, c2, c3, c4, c5, c6, c7, c8, c9, c10, count, last, seq, win, f, al⟩ = r := ⟨_, rfl⟩
      obtain ⟨SB, hSB⟩ : ∃ r, sameSt ⟨c0, c1, c2, c3, c4, c5, c6, c7, c8, c9, c10, count, last, seq, win, f, al⟩ ⟨d0, d1, d2, d3, d4, d5, d6, d7, d8, d9, d10, count2, last2, seq2, win2, f2, al2⟩ = r := ⟨_, rfl⟩
      have HL1 := Lib.hid (fun W (b : Below w.heap.size w W) => hL ▸ sline28_any c0 c1 c2 c3 c4 c5 c6 c7 c8 c9 c10 count last seq wa fa aa wn wc fn fc an ac win f al W hw6 hw7 (hS.below b) hwn (hG.below b) hfn (hA.below b) han hwb)
      have HL2 := Lib.hid (fun W (b : Below w.heap.size w W) => hL ▸ rline28_any c0 c1 c2 c3 c4 c5 c6 c7 c8 c9 c10 count last seq wa fa aa wn wc fn fc an ac win f al W (hS.below b) hwn (hG.below b) hfn (hA.below b) han hwb)
      have HR1 := Lib.hid (fun W (b : Below w.heap.size w W) => hRB ▸ sright28_any c0 c1 c2 c3 c4 c5 c6 c7 c8 c9 c10 count last seq wa fa aa wn wc fn fc an ac win f al W hw7 (hS.below b) hwn (hG.below b) hfn (hA.below b) han)
      have HR2 := Lib.hid (fun W (b : Below w.heap.size w W) => hRB ▸ rright28_any c0 c1 c2 c3 c4 c5 c6 c7 c8 c9 c10 count last seq wa fa aa wn wc fn fc an ac win f al W (hS.below b) hwn (hG.below b) hfn (hA.below b) han)
      have HS1 := Lib.hid (fun W (b : Below w.heap.size w W) => hSB ▸ ssame28_any c0 c1 c2 c3 c4 c5 c6 c7 c8 c9 c10 count last seq d0 d1 d2 d3 d4 d5 d6 d7 d8 d9 d10 count2 last2 seq2 _ _ _ _ _ _ win win2 f f2 al al2 W (hS.below b) (hG.below b) (hA.below b) (hS2.below b) (hG2.below b) (hA2.below b))
      have HS2 := Lib.hid (fun W (b : Below w.heap.size w W) => hSB ▸ rsame28_any c0 c1 c2 c3 c4 c5 c6 c7 c8 c9 c10 count last seq d0 d1 d2 d3 d4 d5 d6 d7 d8 d9 d10 count2 last2 seq2 _ _ _ _ _ _ win win2 f f2 al al2 W (hS.below b) (hG.below b) (hA.below b) (hS2.below b) (hG2.below b) (hA2.below b))
      have HS3 := Lib.hid (fun W (b : Below w.heap.size w W) => sameSt_self ⟨d0, d1, d2, d3, d4, d5, d6, d7, d8, d9, d10, count2, last2, seq2, win2, f2, al2⟩ ▸ ssame28_any d0 d1 d2 d3 d4 d5 d6 d7 d8 d9 d10 count2 last2 seq2 d0 d1 d2 d3 d4 d5 d6 d7 d8 d9 d10 count2 last2 seq2 _ _ _ _ _ _ win2 win2 f2 f2 al2 al2 W (hS2.below b) (hG2.below b) (hA2.below b) (hS2.below b) (hG2.below b) (hA2.below b))
      dsimp only at HL1 HL2
      clear HQ1 HQ2 HWB hwn hfn han _hwn2 _hfn2 han2 hw6 hw7 hS hG hA hS2 hG2 hA2 hwb hL hRB hSB
      go_enter Tryz.func3, Tryz.ntmps3
      go_upto_region 1 with fail
      have R2 := Lib.hid ((rowz_new (W := w) (T := 28) (cs := #[.int .i64 c0, .int .i64 c1, .int .i64 c2, .int .i64 c3, .int .i64 c4, .int .i64 c5, .int .i64 c6, .int .i64 c7, .int .i64 c8, .int .i64 c9, .int .i64 c10, .int .i64 count, .int .i64 last, .int .i64 seq, .slice wa wn wc, .slice fa fn fc, .slice aa an ac]) rfl).alloc (.cells #[.int .i64 d0, .int .i64 d1, .int .i64 d2, .int .i64 d3, .int .i64 d4, .int .i64 d5, .int .i64 d6, .int .i64 d7, .int .i64 d8, .int .i64 d9, .int .i64 d10, .int .i64 count2, .int .i64 last2, .int .i64 seq2, .slice wa2 wn2 wc2, .slice fa2 fn2 fc2, .slice aa2 an2 ac2] 28))
      have R3 := Lib.hid (rowz_new (W := w.alloc (.cells #[.int .i64 c0, .int .i64 c1, .int .i64 c2, .int .i64 c3, .int .i64 c4, .int .i64 c5, .int .i64 c6, .int .i64 c7, .int .i64 c8, .int .i64 c9, .int .i64 c10, .int .i64 count, .int .i64 last, .int .i64 seq, .slice wa wn wc, .slice fa fn fc, .slice aa an ac] 28)) (T := 28) (cs := #[.int .i64 d0, .int .i64 d1, .int .i64 d2, .int .i64 d3, .int .i64 d4, .int .i64 d5, .int .i64 d6, .int .i64 d7, .int .i64 d8, .int .i64 d9, .int .i64 d10, .int .i64 count2, .int .i64 last2, .int .i64 seq2, .slice wa2 wn2 wc2, .slice fa2 fn2 fc2, .slice aa2 an2 ac2]) (b := w.heap.size + 1) (by simp))
      refine wp_region_lit ?_
      refine loadRow rfl 28 _ rfl R2.out (by rfl) Tryz.underlying28 rfl (by kernel_rfl) ?_
      (try simp only [Act.put, List.setIfInBounds_toArray, List.set_cons_zero, List.set_cons_succ])
      go_wp2_with fail
      (with_reducible refine (HM1.out _ bw).mono ?_)
      rintro e w1 ⟨rfl, b1⟩
      have s1 : w.heap.size + 1 + 1 ≤ w1.heap.size := sz b1
      have B1 := Lib.hid (Bc (B := w.heap.size) (a := w) bw b1)
      have R2 := Lib.hid (RowAt.keep R2.out b1 (by first | omega | (simp; done) | (simp; omega)))
      have R3 := Lib.hid (RowAt.keep R3.out b1 (by first | omega | (simp; done) | (simp; omega)))
      clear b1
      dsimp only
      have hKK := ‹∀ (a : Act) (w : World), wpList _ _ _ _ a w → _›
      refine hKK _ _ ?_
      clear hKK
      (try simp only [Act.put, List.setIfInBounds_toArray, List.set_cons_zero, List.set_cons_succ])
      refine seqTk (v := ?_) rfl ?_ ?_; rotate_left 2; (focus (first | (go_simp; done) | (go_simp; with_reducible rfl))); (try simp only [Act.put, List.setIfInBounds_toArray, List.set_cons_zero, List.set_cons_succ])
      refine seqLoadRow rfl 28 _ rfl (by rfl) (show RowAt _ (w.heap.size + 1) 28 _ from R3.out.keep (B := w1.heap.size) bw (by first | omega | (simp; done) | (simp; omega))).range Tryz.underlying28 rfl (by kernel_rfl) ?_
      (try simp only [Act.put, List.setIfInBounds_toArray, List.set_cons_zero, List.set_cons_succ])
      go_wp2_with fail
      (with_reducible refine (HM2.out _ (bx B1.out)).mono ?_)
      rintro e w2 ⟨rfl, b2⟩
      have s2 : w1.heap.size ≤ w2.heap.size := sz b2
      have B2 := Lib.hid (Bc (B := w.heap.size) (a := w) (bx B1.out) b2)
      have R2 := Lib.hid (RowAt.keep (show RowAt _ w.heap.size 28 _ from R2.out.keep (B := w1.heap.size) bw (by first | omega | (simp; done) | (simp; omega))) b2 (by first | omega | (simp; done) | (simp; omega)))
      have R3 := Lib.hid (RowAt.keep (show RowAt _ (w.heap.size + 1) 28 _ from R3.out.keep (B := w1.heap.size) bw (by first | omega | (simp; done) | (simp; omega))) b2 (by first | omega | (simp; done) | (simp; omega)))
      clear b2
      go_upto_region 3 with fail
      refine wp_region_lit ?_
      refine loadRow rfl 28 _ rfl R2.out (by rfl) Tryz.underlying28 rfl (by kernel_rfl) ?_
      (try simp only [Act.put, List.setIfInBounds_toArray, List.set_cons_zero, List.set_cons_succ])
      go_wp2_with fail
      (with_reducible refine (HL1.out _ (bx B2.out)).mono ?_)
      rintro e w3 ⟨rfl, b3⟩
      have s3 : w2.heap.size ≤ w3.heap.size := sz b3
      have B3 := Lib.hid (Bc (B := w.heap.size) (a := w) (bx B2.out) b3)
      have R2 := Lib.hid (RowAt.keep (show RowAt _ w.heap.size 28 _ from R2.out.keep (B := w2.heap.size) bw (by first | omega | (simp; done) | (simp; omega))) b3 (by first | omega | (simp; done) | (simp; omega)))
      have R3 := Lib.hid (RowAt.keep (show RowAt _ (w.heap.size + 1) 28 _ from R3.out.keep (B := w2.heap.size) bw (by first | omega | (simp; done) | (simp; omega))) b3 (by first | omega | (simp; done) | (simp; omega)))
      clear b3
      go_upto_region 4 with fail
      have R5 := Lib.hid (rowz_new (W := w3) (T := 32) (cs := #[.int .i64 X, .int .i64 Y]) (b := w3.heap.size) rfl)
      obtain ⟨w4, hw4⟩ : ∃ W, W = w3.alloc (.cells #[.int .i64 X, .int .i64 Y] 32) := ⟨_, rfl⟩
      have b4 : Below w3.heap.size w3 w4 := by rw [hw4]; (repeat (first | with_reducible exact Below.refl _ _ | with_reducible refine Bs ?_ | with_reducible refine Ba ?_ | with_reducible refine Bd ?_ | with_reducible refine Bn ?_))
      have s4 : w3.heap.size + 1 ≤ w4.heap.size := by rw [hw4]; simp
      rw [← hw4] at R5 ⊢
      have B4 := Lib.hid (show Below w.heap.size w w4 from Bc B3.out b4 (by first | omega | (simp; done) | (simp; omega)))
      have R2 := Lib.hid (R2.out.keep b4 (by first | omega | (simp; done) | (simp; omega)))
      have R3 := Lib.hid (R3.out.keep b4 (by first | omega | (simp; done) | (simp; omega)))
      clear b4 hw4
      refine wp_region_lit ?_
      refine loadRow rfl 28 _ rfl R2.out (by rfl) Tryz.underlying28 rfl (by kernel_rfl) ?_
      (try simp only [Act.put, List.setIfInBounds_toArray, List.set_cons_zero, List.set_cons_succ])
      go_wp2_with fail
      (with_reducible refine (HL2.out _ (bx B4.out)).mono ?_)
      rintro e w5 ⟨rfl, b5⟩
      have s5 : w4.heap.size ≤ w5.heap.size := sz b5
      have B5 := Lib.hid (Bc (B := w.heap.size) (a := w) (bx B4.out) b5)
      have R2 := Lib.hid (RowAt.keep (show RowAt _ w.heap.size 28 _ from R2.out.keep (B := w4.heap.size) bw (by first | omega | (simp; done) | (simp; omega))) b5 (by first | omega | (simp; done) | (simp; omega)))
      have R3 := Lib.hid (RowAt.keep (show RowAt _ (w.heap.size + 1) 28 _ from R3.out.keep (B := w4.heap.size) bw (by first | omega | (simp; done) | (simp; omega))) b5 (by first | omega | (simp; done) | (simp; omega)))
      have R5 := Lib.hid (RowAt.keep R5.out b5 (by first | omega | (simp; done) | (simp; omega)))
      clear b5
      go_upto_region 5 with fail
      have R7 := Lib.hid (rowz_new (W := w5) (T := 32) (cs := #[.int .i64 X, .int .i64 Y]) (b := w5.heap.size) rfl)
      obtain ⟨w6, hw6⟩ : ∃ W, W = w5.alloc (.cells #[.int .i64 X, .int .i64 Y] 32) := ⟨_, rfl⟩
      have b6 : Below w5.heap.size w5 w6 := by rw [hw6]; (repeat (first | with_reducible exact Below.refl _ _ | with_reducible refine Bs ?_ | with_reducible refine Ba ?_ | with_reducible refine Bd ?_ | with_reducible refine Bn ?_))
      have s6 : w5.heap.size + 1 ≤ w6.heap.size := by rw [hw6]; simp
      rw [← hw6] at R7 ⊢
      have B6 := Lib.hid (show Below w.heap.size w w6 from Bc B5.out b6 (by first | omega | (simp; done) | (simp; omega)))
      have HK := Lib.hid (show Hold w6 w.heap.size (w.heap.size + 1) w3.heap.size w5.heap.size #[.int .i64 c0, .int .i64 c1, .int .i64 c2, .int .i64 c3, .int .i64 c4, .int .i64 c5, .int .i64 c6, .int .i64 c7, .int .i64 c8, .int .i64 c9, .int .i64 c10, .int .i64 count, .int .i64 last, .int .i64 seq, .slice wa wn wc, .slice fa fn fc, .slice aa an ac] #[.int .i64 d0, .int .i64 d1, .int .i64 d2, .int .i64 d3, .int .i64 d4, .int .i64 d5, .int .i64 d6, .int .i64 d7, .int .i64 d8, .int .i64 d9, .int .i64 d10, .int .i64 count2, .int .i64 last2, .int .i64 seq2, .slice wa2 wn2 wc2, .slice fa2 fn2 fc2, .slice aa2 an2 ac2] X Y from ⟨R2.out.keep b6 (by first | omega | (simp; done) | (simp; omega)), R3.out.keep b6 (by first | omega | (simp; done) | (simp; omega)), R5.out.keep b6 (by first | omega | (simp; done) | (simp; omega)), R7.out⟩)
      clear b6 hw6 R2 R3 R5 R7
      refine wp_region_held_drew (S := fun w' => Hold w' w.heap.size (w.heap.size + 1) w3.heap.size w5.heap.size #[.int .i64 c0, .int .i64 c1, .int .i64 c2, .int .i64 c3, .int .i64 c4, .int .i64 c5, .int .i64 c6, .int .i64 c7, .int .i64 c8, .int .i64 c9, .int .i64 c10, .int .i64 count, .int .i64 last, .int .i64 seq, .slice wa wn wc, .slice fa fn fc, .slice aa an ac] #[.int .i64 d0, .int .i64 d1, .int .i64 d2, .int .i64 d3, .int .i64 d4, .int .i64 d5, .int .i64 d6, .int .i64 d7, .int .i64 d8, .int .i64 d9, .int .i64 d10, .int .i64 count2, .int .i64 last2, .int .i64 seq2, .slice wa2 wn2 wc2, .slice fa2 fn2 fc2, .slice aa2 an2 ac2] X Y) (by kernel_rfl) ?_ (fun hHeld => ?_); (focus (exact HK.out)); (refine lexTk 0 (v := .agg #[.int .i64 c0, .int .i64 c1, .int .i64 c2, .int .i64 c3, .int .i64 c4, .int .i64 c5, .int .i64 c6, .int .i64 c7, .int .i64 c8, .int .i64 c9, .int .i64 c10, .int .i64 count, .int .i64 last, .int .i64 seq, .slice wa wn wc, .slice fa fn fc, .slice aa an ac]) rfl hHeld ?_ (by kernel_rfl) (fun _ _ _ h => h) ?_ ?_; rotate_left; (focus rfl); (focus (intro w hSw; (try dsimp only at hSw); exact loadRun 28 (by rfl) hSw.1 Tryz.underlying28 rfl (by kernel_rfl)))); (try simp only [Act.put, List.setIfInBounds_toArray, List.set_cons_zero, List.set_cons_succ]); (refine lexTk 2 (v := .agg #[.int .i64 c0, .int .i64 c1, .int .i64 c2, .int .i64 c3, .int .i64 c4, .int .i64 c5, .int .i64 c6, .int .i64 c7, .int .i64 c8, .int .i64 c9, .int .i64 c10, .int .i64 count, .int .i64 last, .int .i64 seq, .slice wa wn wc, .slice fa fn fc, .slice aa an ac]) rfl hHeld ?_ (by kernel_rfl) (fun _ _ _ h => h) ?_ ?_; rotate_left; (focus rfl); (focus (intro w hSw; (try dsimp only at hSw); exact loadRun 28 (by rfl) hSw.1 Tryz.underlying28 rfl (by kernel_rfl)))); (try simp only [Act.put, List.setIfInBounds_toArray, List.set_cons_zero, List.set_cons_succ]); refine lexHv 1 rfl ?_ (by kernel_rfl); (intro K hK); (go_simp; (go_at_call 10); ((with_reducible refine (HR1.out _ (bx B6.out)).mono ?_)); (rintro e w7 ⟨rfl, b7⟩); (have s7 : w6.heap.size ≤ w7.heap.size := sz b7); (have B7 := Lib.hid (Bc (B := w.heap.size) (a := w) (bx B6.out) b7)); (have HK := Lib.hid ((HK.out.below (show Below w6.heap.size w6 _ from bw)).below b7)); (clear b7); (try go_wp2_with fail)); refine hK.out _ _ ?_ ?_; (focus (exact HK.out)); (clear hHeld hK K); (intro hHeld); (try simp only [Act.put, List.setIfInBounds_toArray, List.set_cons_zero, List.set_cons_succ]); refine lexHv 3 rfl ?_ (by kernel_rfl); (intro K hK); (go_simp; (go_at_call 11); ((with_reducible refine (HR2.out _ (bx B7.out)).mono ?_)); (rintro e w8 ⟨rfl, b8⟩); (have s8 : w7.heap.size ≤ w8.heap.size := sz b8); (have B8 := Lib.hid (Bc (B := w.heap.size) (a := w) (bx B7.out) b8)); (have HK := Lib.hid ((HK.out.below (show Below w7.heap.size w7 _ from bw)).below b8)); (clear b8); (try go_wp2_with fail)); refine hK.out _ _ ?_ ?_; (focus (exact HK.out)); (clear hHeld hK K); (intro hHeld); (try simp only [Act.put, List.setIfInBounds_toArray, List.set_cons_zero, List.set_cons_succ]); refine lT 4 rfl hHeld ?_; refine lT 5 rfl hHeld ?_; (first | (refine lexTk 6 (v := .agg #[.int .i64 c0, .int .i64 c1, .int .i64 c2, .int .i64 c3, .int .i64 c4, .int .i64 c5, .int .i64 c6, .int .i64 c7, .int .i64 c8, .int .i64 c9, .int .i64 c10, .int .i64 count, .int .i64 last, .int .i64 seq, .slice wa wn wc, .slice fa fn fc, .slice aa an ac]) rfl hHeld ?_ (by kernel_rfl) (fun _ _ _ h => h) ?_ ?_; rotate_left; (focus rfl); (focus (intro w hSw; (try dsimp only at hSw); exact loadRun 28 (by rfl) hSw.1 Tryz.underlying28 rfl (by kernel_rfl)))) | refine lS 6 rfl hHeld ?_); (try simp only [Act.put, List.setIfInBounds_toArray, List.set_cons_zero, List.set_cons_succ]); (first | (refine lexTk 7 (v := .agg #[.int .i64 d0, .int .i64 d1, .int .i64 d2, .int .i64 d3, .int .i64 d4, .int .i64 d5, .int .i64 d6, .int .i64 d7, .int .i64 d8, .int .i64 d9, .int .i64 d10, .int .i64 count2, .int .i64 last2, .int .i64 seq2, .slice wa2 wn2 wc2, .slice fa2 fn2 fc2, .slice aa2 an2 ac2]) rfl hHeld ?_ (by kernel_rfl) (fun _ _ _ h => h) ?_ ?_; rotate_left; (focus rfl); (focus (intro w hSw; (try dsimp only at hSw); exact loadRun 28 (by rfl) hSw.2.1 Tryz.underlying28 rfl (by kernel_rfl)))) | refine lS 7 rfl hHeld ?_); (try simp only [Act.put, List.setIfInBounds_toArray, List.set_cons_zero, List.set_cons_succ]); (first | (refine lexTk 9 (v := .agg #[.int .i64 c0, .int .i64 c1, .int .i64 c2, .int .i64 c3, .int .i64 c4, .int .i64 c5, .int .i64 c6, .int .i64 c7, .int .i64 c8, .int .i64 c9, .int .i64 c10, .int .i64 count, .int .i64 last, .int .i64 seq, .slice wa wn wc, .slice fa fn fc, .slice aa an ac]) rfl hHeld ?_ (by kernel_rfl) (fun _ _ _ h => h) ?_ ?_; rotate_left; (focus rfl); (focus (intro w hSw; (try dsimp only at hSw); exact loadRun 28 (by rfl) hSw.1 Tryz.underlying28 rfl (by kernel_rfl)))) | refine lS 9 rfl hHeld ?_); (try simp only [Act.put, List.setIfInBounds_toArray, List.set_cons_zero, List.set_cons_succ]); (first | (refine lexTk 10 (v := .agg #[.int .i64 d0, .int .i64 d1, .int .i64 d2, .int .i64 d3, .int .i64 d4, .int .i64 d5, .int .i64 d6, .int .i64 d7, .int .i64 d8, .int .i64 d9, .int .i64 d10, .int .i64 count2, .int .i64 last2, .int .i64 seq2, .slice wa2 wn2 wc2, .slice fa2 fn2 fc2, .slice aa2 an2 ac2]) rfl hHeld ?_ (by kernel_rfl) (fun _ _ _ h => h) ?_ ?_; rotate_left; (focus rfl); (focus (intro w hSw; (try dsimp only at hSw); exact loadRun 28 (by rfl) hSw.2.1 Tryz.underlying28 rfl (by kernel_rfl)))) | refine lS 10 rfl hHeld ?_); (try simp only [Act.put, List.setIfInBounds_toArray, List.set_cons_zero, List.set_cons_succ]); refine lexHv 8 rfl ?_ (by kernel_rfl); (intro K hK); (go_simp; (go_at_call 12); ((with_reducible refine (HS1.out _ (bx B8.out)).mono ?_)); (rintro e w9 ⟨rfl, b9⟩); (have s9 : w8.heap.size ≤ w9.heap.size := sz b9); (have B9 := Lib.hid (Bc (B := w.heap.size) (a := w) (bx B8.out) b9)); (have HK := Lib.hid ((HK.out.below (show Below w8.heap.size w8 _ from bw)).below b9)); (clear b9); (try go_wp2_with fail)); refine hK.out _ _ ?_ ?_; (focus (exact HK.out)); (clear hHeld hK K); (intro hHeld); (try simp only [Act.put, List.setIfInBounds_toArray, List.set_cons_zero, List.set_cons_succ]); refine lexHv 11 rfl ?_ (by kernel_rfl); (intro K hK); (go_simp; (go_at_call 13); ((with_reducible refine (HS2.out _ (bx B9.out)).mono ?_)); (rintro e w10 ⟨rfl, b10⟩); (have s10 : w9.heap.size ≤ w10.heap.size := sz b10); (have B10 := Lib.hid (Bc (B := w.heap.size) (a := w) (bx B9.out) b10)); (have HK := Lib.hid ((HK.out.below (show Below w9.heap.size w9 _ from bw)).below b10)); (clear b10); (try go_wp2_with fail)); refine hK.out _ _ ?_ ?_; (focus (exact HK.out)); (clear hHeld hK K); (intro hHeld); (try simp only [Act.put, List.setIfInBounds_toArray, List.set_cons_zero, List.set_cons_succ]); (first | refine lT 12 rfl hHeld ?_ | refine lS 12 rfl hHeld ?_); refine lT 13 rfl hHeld ?_; refine lT 14 rfl hHeld ?_; (first | (refine lexTk 15 (v := .agg #[.int .i64 d0, .int .i64 d1, .int .i64 d2, .int .i64 d3, .int .i64 d4, .int .i64 d5, .int .i64 d6, .int .i64 d7, .int .i64 d8, .int .i64 d9, .int .i64 d10, .int .i64 count2, .int .i64 last2, .int .i64 seq2, .slice wa2 wn2 wc2, .slice fa2 fn2 fc2, .slice aa2 an2 ac2]) rfl hHeld ?_ (by kernel_rfl) (fun _ _ _ h => h) ?_ ?_; rotate_left; (focus rfl); (focus (intro w hSw; (try dsimp only at hSw); exact loadRun 28 (by rfl) hSw.2.1 Tryz.underlying28 rfl (by kernel_rfl)))) | refine lS 15 rfl hHeld ?_); (try simp only [Act.put, List.setIfInBounds_toArray, List.set_cons_zero, List.set_cons_succ]); (first | (refine lexTk 16 (v := .agg #[.int .i64 d0, .int .i64 d1, .int .i64 d2, .int .i64 d3, .int .i64 d4, .int .i64 d5, .int .i64 d6, .int .i64 d7, .int .i64 d8, .int .i64 d9, .int .i64 d10, .int .i64 count2, .int .i64 last2, .int .i64 seq2, .slice wa2 wn2 wc2, .slice fa2 fn2 fc2, .slice aa2 an2 ac2]) rfl hHeld ?_ (by kernel_rfl) (fun _ _ _ h => h) ?_ ?_; rotate_left; (focus rfl); (focus (intro w hSw; (try dsimp only at hSw); exact loadRun 28 (by rfl) hSw.2.1 Tryz.underlying28 rfl (by kernel_rfl)))) | refine lS 16 rfl hHeld ?_); (try simp only [Act.put, List.setIfInBounds_toArray, List.set_cons_zero, List.set_cons_succ]); refine lexHv 17 rfl ?_ (by kernel_rfl); (intro K hK); (go_simp; (go_at_call 12); ((with_reducible refine (HS3.out _ (bx B10.out)).mono ?_)); (rintro e w11 ⟨rfl, b11⟩); (have s11 : w10.heap.size ≤ w11.heap.size := sz b11); (have B11 := Lib.hid (Bc (B := w.heap.size) (a := w) (bx B10.out) b11)); (have HK := Lib.hid ((HK.out.below (show Below w10.heap.size w10 _ from bw)).below b11)); (clear b11); (try go_wp2_with fail)); refine hK.out _ _ ?_ ?_; (focus (exact HK.out)); (clear hHeld hK K); (intro hHeld); (try simp only [Act.put, List.setIfInBounds_toArray, List.set_cons_zero, List.set_cons_succ]); refine lT 18 rfl hHeld ?_; refine lT 19 rfl hHeld ?_; (first | (refine lexTk 20 (v := .agg #[.int .i64 X, .int .i64 Y]) rfl hHeld ?_ (by kernel_rfl) (fun _ _ _ h => h) ?_ ?_; rotate_left; (focus rfl); (focus (intro w hSw; (try dsimp only at hSw); exact loadRun 32 (by rfl) hSw.2.2.1 Tryz.underlying32 rfl (by kernel_rfl)))) | refine lS 20 rfl hHeld ?_); (try simp only [Act.put, List.setIfInBounds_toArray, List.set_cons_zero, List.set_cons_succ]); (first | (refine lexTk 21 (v := .agg #[.int .i64 X, .int .i64 Y]) rfl hHeld ?_ (by kernel_rfl) (fun _ _ _ h => h) ?_ ?_; rotate_left; (focus rfl); (focus (intro w hSw; (try dsimp only at hSw); exact loadRun 32 (by rfl) hSw.2.2.2 Tryz.underlying32 rfl (by kernel_rfl)))) | refine lS 21 rfl hHeld ?_); (try simp only [Act.put, List.setIfInBounds_toArray, List.set_cons_zero, List.set_cons_succ]); (first | refine lT 22 rfl hHeld ?_ | refine lS 22 rfl hHeld ?_); refine lT 23 rfl hHeld ?_; refine lT 24 rfl hHeld ?_; (first | refine lT 25 rfl hHeld ?_ | refine lS 25 rfl hHeld ?_); (first | refine lT 26 rfl hHeld ?_ | refine lS 26 rfl hHeld ?_); (first | refine lT 27 rfl hHeld ?_ | refine lS 27 rfl hHeld ?_); refine lT 28 rfl hHeld ?_; refine lT 29 rfl hHeld ?_; refine lexHv 30 rfl ?_ (by kernel_rfl); (intro K hK); (go_simp; (go_at_call 7); ((with_reducible refine (lives28_any _).mono ?_)); (rintro e w12 ⟨rfl, b12⟩); (have s12 : w11.heap.size ≤ w12.heap.size := sz b12); (have B12 := Lib.hid (Bc (B := w.heap.size) (a := w) (bx B11.out) b12)); (have HK := Lib.hid ((HK.out.below (show Below w11.heap.size w11 _ from bw)).below b12)); (clear b12); (try go_wp2_with fail)); refine hK.out _ _ ?_ ?_; (focus (exact HK.out)); (clear hHeld hK K); (intro hHeld); (try simp only [Act.put, List.setIfInBounds_toArray, List.set_cons_zero, List.set_cons_succ]); refine lT 31 rfl hHeld ?_; refine lT 32 rfl hHeld ?_; refine wpAnyH_done (by kernel_rfl) ?_ _
      all_goals
        go_wp2_with fail
        go_ret
        exact ⟨rfl, bx B12.out⟩

theorem stateRights_walk {w : World} (v : Value) (s : StP) (hs : ArgState w v s) (v2 : Value) (t : StP) (ht : ArgState w v2 t) :
    Calls Tryz.prog 3 #[v, v2] w fun e w' => e = .returned (.bool true) ∧ Below w.heap.size w w' := by
  obtain ⟨c0, c1, c2, c3, c4, c5, c6, c7, c8, c9, c10, count, last, seq, win, f, al⟩ := s
  obtain ⟨d0, d1, d2, d3, d4, d5, d6, d7, d8, d9, d10, count2, last2, seq2, win2, f2, al2⟩ := t
  obtain ⟨wv, fv, av, rfl, hS, hG, hA, h64, _⟩ := hs
  obtain ⟨wv2, fv2, av2, rfl, hS2, hG2, hA2, _⟩ := ht
  dsimp only at hS hG hA hS2 hG2 hA2
  have k1 := hS; have k2 := hG; have k3 := hA; have j1 := hS2; have j2 := hG2; have j3 := hA2
  obtain ⟨wa, wc, rfl⟩ := hS.shape
  obtain ⟨fa, fc, rfl, _⟩ := hG
  obtain ⟨aa, ac, rfl⟩ := hA.shape
  obtain ⟨wa2, wc2, rfl⟩ := hS2.shape
  obtain ⟨fa2, fc2, rfl, _⟩ := hG2
  obtain ⟨aa2, ac2, rfl⟩ := hA2.shape
  exact stateRights_mid c0 c1 c2 c3 c4 c5 c6 c7 c8 c9 c10 count last seq d0 d1 d2 d3 d4 d5 d6 d7 d8 d9 d10 count2 last2 seq2 wa fa aa wa2 fa2 aa2 _ wc _ fc _ ac _ wc2 _ fc2 _ ac2 win win2 f f2 al al2 w (h64 c6 (by simp [StP.conf])) (h64 c7 (by simp [StP.conf])) k1 rfl k2 rfl k3 rfl j1 rfl j2 rfl j3 rfl
end Go.Proofs.YtgobbecpnjelmaaGreat
