/-
  Walk of explain.All.
-/
import Derived.Test.YtopodhcgfmpphaaExplL
namespace Go.Proofs.Ytopodhcgfmpphaa
open Go.RowKit

theorem eiRoom : EI Try.prog 103 (.agg #[.int .i64 0, .int .i64 0]) 2 16 := .of (by kernel_rfl) rfl (by decide) (by decide)
theorem eiWhy : EI Try.prog 47 (.agg #[.int .i64 0, .int .i64 0, .int .i64 0]) 3 24 := .of (by kernel_rfl) rfl (by decide) (by decide)

theorem made_at (z : Array Value) (n i : Nat) (h : i < n) : (madeCells z n).toList[i]? = some z[i % z.size]! := by
  unfold madeCells
  simp [h]

theorem RoomsAt.made {w : World} {base e A n cap : Nat} (h : w.ownsRow base e 2 (.slice (some ⟨A, 0, none⟩) n cap) n (madeCells #[.int .i64 0, .int .i64 0] (n * 2)).toList) : RoomsAt w A n fun _ => (0, 0) := by
  have hA := (h.lt A rfl).2
  refine ⟨hA, fun k hk => ⟨hA, ?_, ?_, h.frozenAt _, h.frozenAt _⟩⟩
  · rw [h.cellAt _ (by omega), made_at _ _ _ (by omega)]
    rw [show k * 2 % (#[Value.int .i64 0, .int .i64 0] : Array Value).size = 0 by simp]
    rfl
  · rw [h.cellAt _ (by omega), made_at _ _ _ (by omega)]
    rw [show (k * 2 + 1) % (#[Value.int .i64 0, .int .i64 0] : Array Value).size = 1 by simp]
    rfl

theorem WhyAt.made {w : World} {base e A n cap : Nat} (h : w.ownsRow base e 3 (.slice (some ⟨A, 0, none⟩) n cap) n (madeCells #[.int .i64 0, .int .i64 0, .int .i64 0] (n * 3)).toList) : WhyAt w A n fun _ => (0, 0, 0) := by
  have hA := (h.lt A rfl).2
  refine ⟨hA, fun k hk => ⟨⟨?_, ?_, ?_⟩, h.frozenAt _, h.frozenAt _, h.frozenAt _⟩⟩
  · rw [h.cellAt _ (by omega), made_at _ _ _ (by omega)]
    rw [show k * 3 % (#[Value.int .i64 0, .int .i64 0, .int .i64 0] : Array Value).size = 0 by simp]
    rfl
  · rw [h.cellAt _ (by omega), made_at _ _ _ (by omega)]
    rw [show (k * 3 + 1) % (#[Value.int .i64 0, .int .i64 0, .int .i64 0] : Array Value).size = 1 by simp]
    rfl
  · rw [h.cellAt _ (by omega), made_at _ _ _ (by omega)]
    rw [show (k * 3 + 2) % (#[Value.int .i64 0, .int .i64 0, .int .i64 0] : Array Value).size = 2 by simp]
    rfl

/-- The room of a column behind i trees. -/
noncomputable def rmN (l : List TreeP) (x : List Int) (i k : Nat) : Int × Int := (whyLo (l.take i) x k, whyHi (l.take i) x k)

theorem rmN_zero (l : List TreeP) (x : List Int) (k : Nat) : rmN l x 0 k = all0 := rfl
theorem rmN_step {l : List TreeP} {t : TreeP} {i : Nat} (h : l[i]? = some t) (x : List Int) (k : Nat) : rmN l x (i + 1) k = (max (rmN l x i k).1 (roomP t x k).1, min (rmN l x i k).2 (roomP t x k).2) := by
  unfold rmN
  rw [whyLo_step h, whyHi_step h]

theorem heap_set_far {w : World} {b o q : Nat} {v : Value} (h : q ≠ b) : (w.setCell ⟨b, o, none⟩ v).heap[q]? = w.heap[q]? := Below.heap_setCell _ _ _ _ h

set_option maxRecDepth 100000 in
set_option maxHeartbeats 4000000 in
theorem eall_any (v vx : Value) (l : List TreeP) (x : List Int) (w : World) (h : TreesR w v l) (hx : Ints .i64 w vx x) :
    Calls Try.prog 25 #[v, vx] w fun e w' => ∃ vo, e = .returned (.tuple #[vo, .int .i64 (sumE l x)]) ∧ WhysR w' vo (if sumE l x = 0 then whyL l x else []) ∧ Below w.heap.size w w' := by
  have HTR := Lib.hid h
  have HX := Lib.hid hx
  have HS := Lib.hid (fun W (hW : TreesR W v l) (hX : Ints .i64 W vx x) => sum_any' v vx l x W hW hX)
  obtain ⟨ad, cc, rfl, _, _, q3, hcell⟩ := h
  obtain ⟨ax, cx, rfl, _⟩ := hx
  have HCELL := Lib.hid hcell
  by_cases hE : sumE l x = 0
  · obtain ⟨z1, z2, z3, z4⟩ := sumE_zero hE
    have HM := Lib.hid (fun t (ht : t ∈ l) => allT_mem z3 ht)
    obtain ⟨v1, v2, v3, v4⟩ := vecB_yes z4
    rw [hE] at HS ⊢
    simp only [if_true] at HS ⊢
    have HVB := Lib.hid z4
    have HDM := Lib.hid v3
    generalize sumV l x = SV at *
    obtain ⟨m, hm⟩ : ∃ m, l.length = m := ⟨_, rfl⟩
    rw [hm] at HTR HS z1 q3 ⊢
    have HL := Lib.hid hm
    obtain ⟨n, hn⟩ : ∃ n, x.length = n := ⟨_, rfl⟩
    rw [hn] at HX HS v3 ⊢
    have HXL := Lib.hid hn
    have x8 : n ≤ 8 := by omega
    have i8 : (n : Int) ≤ 8 := by omega
    have m16 : (m : Int) ≤ 16 := by omega
    clear hE z2 z3 z4 v1 v2 v3 v4 hm hn hcell
    go_enter Try.func25, Try.ntmps25
    go_wp2_with fail
    (with_reducible refine (HS.out _ HTR.out HX.out).mono ?_); rintro e w1 ⟨rfl, b1⟩; have s1 : w.heap.size ≤ w1.heap.size := (by have := b1.size; first | omega | (simp at this; omega)); have B1 := Lib.hid (show Below w.heap.size w w1 from below_tr (by (repeat (first | with_reducible exact Below.refl _ _ | ((with_reducible refine Below.setCell ?_ ?_ _); rotate_left; (focus (first | omega | (simp; done) | (simp; omega)))) | ((with_reducible refine Below.alloc ?_ ?_ _); rotate_left; (focus (first | omega | (simp; done) | (simp; omega)))) | (with_reducible refine Below.drew ?_) | (with_reducible refine below_drewN ?_ _)))) (b1.mono (by first | omega | (simp; done) | (simp; omega)))); clear b1
    go_wp2_with (at_make; go_must (refine mkfull rfl _ _ 110 rfl Try.underlying110 eiRoom w1.heap.size n (by rfl) (by rfl) (by rfl) (by rfl) (by omega) (Nat.le_refl _) ?_))
    intro w2 hown hb2 _
    have hA := RoomsAt.made hown
    have s2 := hb2.size
    have B2 := Lib.hid (show Below w.heap.size w w2 from below_tr (by (repeat (first | with_reducible exact Below.refl _ _ | ((with_reducible refine Below.setCell ?_ ?_ _); rotate_left; (focus (first | omega | (simp; done) | (simp; omega)))) | ((with_reducible refine Below.alloc ?_ ?_ _); rotate_left; (focus (first | omega | (simp; done) | (simp; omega)))) | (with_reducible refine Below.drew ?_) | (with_reducible refine below_drewN ?_ _) | ((with_reducible refine Below.trans ?_ (Below.mono B1.out ?_)); rotate_left; (focus (first | omega | (simp; done) | (simp; omega))))))) (hb2.mono (by omega)))
    obtain ⟨A, hA0⟩ : ∃ A, w1.heap.size = A := ⟨_, rfl⟩
    rw [hA0] at hA s1 s2 ⊢
    have HA := Lib.hid hA
    have hwA : w.heap.size ≤ A := by omega
    clear hown hb2 hA0 hA
    go_wp2_with fail
    go_loopw [9, 33] (fun _ i wr => ∃ k : Nat, i = .int .i64 k ∧ k ≤ n ∧ RoomsAt wr A n (fun j => if j < k then all0 else (0, 0)) ∧ Below w.heap.size w wr) (fun _ i _ => n - (intOf i).toNat)
    case atStart => exact ⟨0, rfl, by omega, HA.out.congr fun j _ => by simp, B2.out⟩
    case round =>
      obtain ⟨k, rfl, hk, hro, hbr⟩ := hrel
      have HRO := Lib.hid hro
      have HBR := Lib.hid hbr
      have hAr := hro.1
      have i1 : (0 : Int) ≤ (k : Int) := by omega
      clear hro hbr
      by_cases hlt : k < n
      · have i2 : (k : Int) < (n : Int) := by omega
        go_wp2_with fail
        (with_reducible refine (all0_any _).mono ?_)
        rintro e w3 ⟨rfl, b3⟩
        have R3 := Lib.hid (HRO.out.keep (b3.block A hAr) b3.size)
        obtain ⟨r1, r2, r3, r4, r5⟩ := R3.out.2 k hlt
        have B3 := Lib.hid (show Below w.heap.size w w3 from below_tr HBR.out (b3.mono HBR.out.size))
        have s3 := b3.size
        clear b3
        go_wp2_with fail
        go_roundw
        case rel =>
          refine ⟨k + 1, by go_num, by omega, (R3.out.put k all0).congr fun j hj => ?_, by (repeat (first | with_reducible exact Below.refl _ _ | ((with_reducible refine Below.setCell ?_ ?_ _); rotate_left; (focus (first | omega | (simp; done) | (simp; omega)))) | ((with_reducible refine Below.alloc ?_ ?_ _); rotate_left; (focus (first | omega | (simp; done) | (simp; omega)))) | (with_reducible refine Below.drew ?_) | (with_reducible refine below_drewN ?_ _) | ((with_reducible refine Below.trans ?_ (Below.mono B3.out ?_)); rotate_left; (focus (first | omega | (simp; done) | (simp; omega))))))⟩
          by_cases e : j = k
          · rw [if_pos e, if_pos (by omega)]
          · rw [if_neg e]
            by_cases e2 : j < k
            · rw [if_pos e2, if_pos (by omega)]
            · rw [if_neg e2, if_neg (by omega)]
        case measure => simp [intOf] <;> omega
      · obtain rfl : k = n := by omega
        have HRA := Lib.hid (HRO.out.congr (f' := rmN l x 0) fun j hj => by rw [if_pos hj, rmN_zero])
        clear HRO
        go_wp2_with (at_make; go_must (refine mkfull rfl _ _ 41 rfl Try.underlying41 eiWhy wr.heap.size k (by rfl) (by rfl) (by rfl) (by rfl) (by omega) (Nat.le_refl _) ?_))
        intro w4 hown hb4 _
        have hG := WhyAt.made hown
        have s4 := hb4.size
        have B4 := Lib.hid (show Below w.heap.size w w4 from below_tr HBR.out (hb4.mono HBR.out.size))
        have R4 := Lib.hid (HRA.out.keep (hb4.block A hAr) s4)
        obtain ⟨G, hG0⟩ : ∃ G, wr.heap.size = G := ⟨_, rfl⟩
        rw [hG0] at hG hAr s4 ⊢
        have HG := Lib.hid hG
        have hAG : A < G := hAr
        have hGw : G < w4.heap.size := hG.1
        clear hown hb4 hG0 hG HRA HBR HA i1 hlt hk B2
        clear hAr s4 s2
        go_wp2_with fail
        go_loopw [12, 13, 14, 15, 16, 46, 58] (fun _ _ _ _ _ i _ wr => ∃ j : Nat, i = .int .i64 j ∧ j ≤ m ∧ RoomsAt wr A k (rmN l x j) ∧ WhyAt wr G k (fun c => (whyS (l.take j) x c, 0, 0)) ∧ Below w.heap.size w wr) (fun _ _ _ _ _ i _ _ => m - (intOf i).toNat)
        case atStart => exact ⟨0, rfl, by omega, R4.out, HG.out, B4.out⟩
        case round =>
          obtain ⟨j, rfl, hj, hro, hwh, hbr⟩ := hrel
          have HRO := Lib.hid hro
          have HWH := Lib.hid hwh
          have HBR := Lib.hid hbr
          have hAr := hro.1
          have hGr := hwh.1
          have i1 : (0 : Int) ≤ (j : Int) := by omega
          clear hro hwh hbr
          by_cases hlt : j < m
          · have i2 : (j : Int) < (m : Int) := by omega
            obtain ⟨t, ht⟩ := getElem?_ex (l := l) (k := j) (by rw [HL.out]; exact hlt)
            obtain ⟨hTB, hTD⟩ := HM.out t (List.mem_of_getElem? ht)
            have hV : vecB x t.dim = true := by rw [hTD]; exact HVB.out
            have hP : pathE t x = 0 := by unfold pathE; rw [if_pos hTB, if_pos hV]
            have HSP := Lib.hid (fun vt W (hT : TreeR W vt t) (hX : Ints .i64 W (.slice ax k cx) x) => esteps_any vt (.slice ax k cx) t x W hT hX)
            rw [hP] at HSP
            simp only [if_true] at HSP
            have HRF := Lib.hid (fun vt c W (hT : TreeR W vt t) (hX : Ints .i64 W (.slice ax k cx) x) hc => roomOf_any vt (.slice ax k cx) t x c W hT hX hTB hV hc)
            have HWS := Lib.hid (fun c => whyS_step ht x c)
            have HRS := Lib.hid (fun c => rmN_step ht x c)
            have HCN := Lib.hid (fun c => cntI_bd hTB x c)
            have HWB := Lib.hid (fun c => whyS_bd (l := l.take j) (fun t ht => (HM.out t (List.mem_of_mem_take ht)).1) x c)
            have HCL := Lib.hid (show (cntL t x).length = k ∧ ∀ c, c < k → (cntL t x)[c]? = some (cntI t x c) by
              have h1 := HXL.out
              have h2 := HDM.out
              have h3 : t.dim.toNat = k := by omega
              unfold cntL
              rw [h3]
              exact ⟨by simp, fun c hc => by rw [List.getElem?_map, List.getElem?_range hc]; rfl⟩)
            obtain ⟨b, o, nv, rfl, hb, c0, c1, hn⟩ := HCELL.out j t ht
            have e0 := (HBR.out.cell (p := ⟨b, o + j * 2, none⟩) hb).trans c0
            have e1 := (HBR.out.cell (p := ⟨b, o + j * 2 + 1, none⟩) hb).trans c1
            have HT := Lib.hid (show TreeR w (.agg #[.int .i64 t.dim, nv]) t from ⟨nv, rfl, hn⟩)
            obtain ⟨na, nc, rfl, _⟩ := hn
            generalize t.nodes.length = tn at *
            generalize t.dim = D at *
            clear ht hTB hTD hV hP c0 c1 hb
            go_wp2_with fail
            obtain ⟨W5, hW5⟩ : ∃ W5, W5 = wr.alloc (.cells #[.int .i64 D, .slice na tn nc] 24) := ⟨_, rfl⟩
            have B5 := Lib.hid (show Below wr.heap.size wr W5 by rw [hW5]; (repeat (first | with_reducible exact Below.refl _ _ | ((with_reducible refine Below.setCell ?_ ?_ _); rotate_left; (focus (first | omega | (simp; done) | (simp; omega)))) | ((with_reducible refine Below.alloc ?_ ?_ _); rotate_left; (focus (first | omega | (simp; done) | (simp; omega)))) | (with_reducible refine Below.drew ?_) | (with_reducible refine below_drewN ?_ _))))
            have s5 : wr.heap.size + 1 = W5.heap.size := by rw [hW5]; simp
            have t0 : W5.cell? ⟨wr.heap.size, 0, none⟩ = some (.int .i64 D) := by rw [hW5]; go_simp
            have t1 : W5.cell? ⟨wr.heap.size, 1, none⟩ = some (.slice na tn nc) := by rw [hW5]; go_simp
            have R5 := Lib.hid (HRO.out.keep (B5.out.block A hAr) B5.out.size)
            have Y5 := Lib.hid (HWH.out.keep (B5.out.block G hGr) B5.out.size)
            have BB5 := Lib.hid (below_tr HBR.out (B5.out.mono HBR.out.size))
            rw [← hW5]
            (with_reducible refine (HSP.out _ W5 (HT.out.below BB5.out) (HX.out.below BB5.out)).mono ?_)
            rintro e w6 ⟨vs, rfl, is, fs, b6⟩
            have u0 := (b6.cell (p := ⟨wr.heap.size, 0, none⟩) (by show wr.heap.size < _; omega)).trans t0
            have u1 := (b6.cell (p := ⟨wr.heap.size, 1, none⟩) (by show wr.heap.size < _; omega)).trans t1
            have s6 : wr.heap.size + 1 ≤ w6.heap.size := by have := b6.size; omega
            have R6 := Lib.hid (R5.out.keep (b6.block A (by omega)) b6.size)
            have Y6 := Lib.hid (Y5.out.keep (b6.block G (by omega)) b6.size)
            have BB6 := Lib.hid (below_tr BB5.out (b6.mono BB5.out.size))
            have IS := Lib.hid is
            have FS := Lib.hid (fs.mono (B' := wr.heap.size + 1) (by omega))
            obtain ⟨sa, sc, rfl, _⟩ := is
            rw [HCL.out.1] at IS FS ⊢
            obtain ⟨T, hT⟩ : ∃ T, wr.heap.size = T := ⟨_, rfl⟩
            rw [hT] at u0 u1 s6 FS hAr hGr ⊢
            clear b6 fs hW5 e0 e1 t0 t1 s5 B5 R5 Y5 BB5 hT HRO HWH HBR
            go_wp2_with fail
            go_loopw [15, 16, 58] (fun _ _ i wr => ∃ c : Nat, i = .int .i64 c ∧ c ≤ k ∧ RoomsAt wr A k (fun q => rmN l x (if q < c then j + 1 else j) q) ∧ WhyAt wr G k (fun q => (whyS (l.take (if q < c then j + 1 else j)) x q, 0, 0)) ∧
              Ints .i64 wr (.slice sa k sc) (cntL t x) ∧ Below w.heap.size w wr ∧ wr.cell? ⟨T, 0, none⟩ = some (.int .i64 D) ∧ wr.cell? ⟨T, 1, none⟩ = some (.slice na tn nc) ∧ T < wr.heap.size) (fun _ _ i _ => k - (intOf i).toNat)
            case atStart => exact ⟨0, rfl, by omega, R6.out.congr fun q _ => by simp, Y6.out.congr fun q _ => by simp, IS.out, BB6.out, u0, u1, by omega⟩
            case round =>
              obtain ⟨c, rfl, hc, hro, hwh, his, hbr, y0, y1, hTr⟩ := hrel
              have HRO := Lib.hid hro
              have HWH := Lib.hid hwh
              have HIS := Lib.hid his
              have HBR := Lib.hid hbr
              have j1 : (0 : Int) ≤ (c : Int) := by omega
              clear hro hwh his hbr u0 u1
              by_cases hlt2 : c < k
              · have j2 : (c : Int) < (k : Int) := by omega
                obtain ⟨_, _, e, _, _, _, g⟩ := HIS.out
                rw [HCL.out.1] at e
                injection e with q1 q2 q3'
                subst q1 q3'
                obtain ⟨sb, so, rfl, hsb, hsc⟩ := g c _ (HCL.out.2 c hlt2)
                obtain ⟨⟨a0, a1, a2⟩, f0, f1, f2⟩ := HWH.out.2 c hlt2
                obtain ⟨n1, n2⟩ := HCN.out c
                obtain ⟨p1, p2⟩ := HWB.out c
                have p3 : whyS (l.take j) x c ≤ 96 := by
                  have h1 : (l.take j).length ≤ j := by rw [List.length_take]; omega
                  omega
                dsimp only at a0
                rw [if_neg (Nat.lt_irrefl c)] at a0
                have HWS2 := Lib.hid (HWS.out c)
                have HRS2 := Lib.hid (HRS.out c)
                have HME := Lib.hid (fun W h => meet_any A (c * 2) (rmN l x j c) (roomP t x c).1 (roomP t x c).2 W h)
                have HRC := Lib.hid (fun W hT hX => HRF.out (.agg #[.int .i64 D, .slice na tn nc]) c W hT hX (by rw [HXL.out]; exact hlt2))
                obtain ⟨CN, hCN⟩ : ∃ CN, cntI t x c = CN := ⟨_, rfl⟩
                obtain ⟨S, hS⟩ : ∃ S, whyS (l.take j) x c = S := ⟨_, rfl⟩
                obtain ⟨RP, hRP⟩ : ∃ RP, roomP t x c = RP := ⟨_, rfl⟩
                rw [hCN] at hsc n1 n2 HWS2
                rw [hS] at a0 p1 p2 p3 HWS2
                rw [hRP] at HRS2 HME HRC
                obtain ⟨lo, hi⟩ := RP
                simp only at HRS2 HME HRC
                clear hCN hS hRP g p2
                go_wp2_with fail
                obtain ⟨W7, hW7⟩ : ∃ W7, W7 = wr.setCell ⟨G, c * 3, none⟩ (.int .i64 (S + CN)) := ⟨_, rfl⟩
                have s7 : W7.heap.size = wr.heap.size := by rw [hW7]; simp
                have Y7 := Lib.hid (show WhyAt W7 G k _ from hW7 ▸ HWH.out.put0 c (S + CN))
                have R7 := Lib.hid (HRO.out.keep (w' := W7) (by rw [hW7]; exact heap_set_far (by omega)) (by omega))
                have I7 := Lib.hid (show Ints .i64 W7 _ _ from hW7 ▸ HIS.out.setCell FS.out (A := ⟨G, c * 3, none⟩) (by show G < T + 1; omega) (.int .i64 (S + CN)))
                have BB7 := Lib.hid (show Below w.heap.size w W7 from hW7 ▸ HBR.out.setCell (by show w.heap.size ≤ G; omega) (.int .i64 (S + CN)))
                have t0 : W7.cell? ⟨T, 0, none⟩ = some (.int .i64 D) := (cell_of_block (by rw [hW7]; exact heap_set_far (by omega))).trans y0
                have t1 : W7.cell? ⟨T, 1, none⟩ = some (.slice na tn nc) := (cell_of_block (by rw [hW7]; exact heap_set_far (by omega))).trans y1
                rw [← hW7]
                have hAr7 : A < W7.heap.size := by omega
                have hGr7 : G < W7.heap.size := by omega
                have hTr7 : T < W7.heap.size := by omega
                have hTA : T ≠ A := by omega
                have hTG : T ≠ G := by omega
                clear hW7 hsc a0 a1 a2 f0 f1 f2 y0 y1 HRO HWH HIS HBR
                go_wp2_with fail
                go_region_held3 (fun w' => w'.cell? ⟨T, 0, none⟩ = some (.int .i64 D) ∧ w'.cell? ⟨T, 1, none⟩ = some (.slice na tn nc)) (first | (go_simp; done) | (go_keep; done) | (refine ⟨?_, ?_⟩ <;> first | (go_simp; done) | (go_keep; done))) (first | (first | (go_at_call 68; (with_reducible refine (HRC.out _ (HT.out.below (below_tr BB7.out (by (repeat (first | with_reducible exact Below.refl _ _ | ((with_reducible refine Below.setCell ?_ ?_ _); rotate_left; (focus (first | omega | (simp; done) | (simp; omega)))) | ((with_reducible refine Below.alloc ?_ ?_ _); rotate_left; (focus (first | omega | (simp; done) | (simp; omega)))) | (with_reducible refine Below.drew ?_) | (with_reducible refine below_drewN ?_ _)))))) (HX.out.below (below_tr BB7.out (by (repeat (first | with_reducible exact Below.refl _ _ | ((with_reducible refine Below.setCell ?_ ?_ _); rotate_left; (focus (first | omega | (simp; done) | (simp; omega)))) | ((with_reducible refine Below.alloc ?_ ?_ _); rotate_left; (focus (first | omega | (simp; done) | (simp; omega)))) | (with_reducible refine Below.drew ?_) | (with_reducible refine below_drewN ?_ _))))))).mono ?_); rintro e w8 ⟨rfl, b8⟩; have B8 := Lib.hid (show Below W7.heap.size W7 w8 from below_tr (by (repeat (first | with_reducible exact Below.refl _ _ | ((with_reducible refine Below.setCell ?_ ?_ _); rotate_left; (focus (first | omega | (simp; done) | (simp; omega)))) | ((with_reducible refine Below.alloc ?_ ?_ _); rotate_left; (focus (first | omega | (simp; done) | (simp; omega)))) | (with_reducible refine Below.drew ?_) | (with_reducible refine below_drewN ?_ _)))) (b8.mono (by first | omega | (simp; done) | (simp; omega)))); have s8 := B8.out.size; have k0 := (B8.out.cell (p := ⟨T, 0, none⟩) hTr7).trans t0; have k1 := (B8.out.cell (p := ⟨T, 1, none⟩) hTr7).trans t1; have R8 := Lib.hid (R7.out.keep (B8.out.block A hAr7) s8); have RM8 := Lib.hid (show RoomAt w8 A (c * 2) (rmN l x j c) from (by have h := R8.out.2 c hlt2; dsimp only at h; rw [if_neg (Nat.lt_irrefl c)] at h; exact h)); clear b8) | (go_at_call 74; (with_reducible refine (HME.out _ RM8.out).mono ?_); rintro e w9 ⟨⟨r9, rfl⟩, b9⟩; have B9 := Lib.hid b9; have k2 := (cell_of_block (o := 0) ((b9.block T (by omega)).trans ((heap_set_far hTA).trans (heap_set_far hTA)))).trans k0; have k3 := (cell_of_block (o := 1) ((b9.block T (by omega)).trans ((heap_set_far hTA).trans (heap_set_far hTA)))).trans k1; clear b9)))
                have s9 : w8.heap.size ≤ w9.heap.size := by have := B9.out.size; simpa using this
                have R9 := Lib.hid ((R8.out.put c (max (rmN l x j c).1 lo, min (rmN l x j c).2 hi)).keep (B9.out.block A (by omega)) B9.out.size)
                have Y9 := Lib.hid ((Y7.out.keep (B8.out.block G hGr7) s8).keep (w' := w9) ((B9.out.block G (by omega)).trans ((heap_set_far (by omega)).trans (heap_set_far (by omega)))) s9)
                have I9 := Lib.hid ((((I7.out.below B8.out).setCell FS.out (A := ⟨A, c * 2, none⟩) (by show A < T + 1; omega) (.int .i64 (max (rmN l x j c).1 lo))).setCell FS.out (A := ⟨A, c * 2 + 1, none⟩) (by show A < T + 1; omega) (.int .i64 (min (rmN l x j c).2 hi))).below (w' := w9) (by simpa using B9.out))
                have BB9 := Lib.hid (show Below w.heap.size w w9 from below_tr (((below_tr BB7.out (B8.out.mono BB7.out.size)).setCell (p := ⟨A, c * 2, none⟩) hwA (.int .i64 (max (rmN l x j c).1 lo))).setCell (p := ⟨A, c * 2 + 1, none⟩) hwA (.int .i64 (min (rmN l x j c).2 hi))) (B9.out.mono (by omega)))
                clear R7 Y7 I7 BB7 R8 RM8 B8 B9 t0 t1 k0 k1
                go_wp2_with fail
                go_roundw
                case rel =>
                  refine ⟨c + 1, by go_num, by omega, R9.out.congr fun q hq => ?_, Y9.out.congr fun q hq => ?_, I9.out, BB9.out, k2, k3, by omega⟩
                  · by_cases e : q = c
                    · subst e
                      rw [if_pos rfl, if_pos (by omega), HRS2.out]
                    · rw [if_neg e]
                      by_cases e2 : q < c
                      · rw [if_pos e2, if_pos (by omega)]
                      · rw [if_neg e2, if_neg (by omega)]
                  · by_cases e : q = c
                    · subst e
                      rw [if_pos rfl, if_pos (by omega), HWS2.out]
                    · rw [if_neg e]
                      by_cases e2 : q < c
                      · rw [if_pos e2, if_pos (by omega)]
                      · rw [if_neg e2, if_neg (by omega)]
                case measure => simp [intOf] <;> omega
              · obtain rfl : c = k := by omega
                go_wp2_with fail
                go_roundw
                case rel => exact ⟨j + 1, by go_num, by omega, HRO.out.congr fun q hq => by rw [if_pos hq], HWH.out.congr fun q hq => by rw [if_pos hq], HBR.out⟩
                case measure => simp [intOf] <;> omega
          · obtain rfl : j = m := by omega
            have HR0 := Lib.hid HRO.out
            have HY0 := Lib.hid (HWH.out.congr (g' := fun q => (whyS l x q, if q < 0 then rmN l x j q else (0, 0))) fun q _ => by rw [List.take_of_length_le (by rw [HL.out]; exact Nat.le_refl _), if_neg (by omega)])
            have HBB := Lib.hid HBR.out
            have HTK := Lib.hid (show ∀ q, rmN l x j q = (whyLo l x q, whyHi l x q) from fun q => by unfold rmN; rw [List.take_of_length_le (by rw [HL.out]; exact Nat.le_refl _)])
            clear HRO HWH HBR hAr hGr R4 HG B4
            go_wp2_with fail
            go_loopw [17, 18, 84] (fun _ _ i wr => ∃ c : Nat, i = .int .i64 c ∧ c ≤ k ∧ RoomsAt wr A k (rmN l x j) ∧ WhyAt wr G k (fun q => (whyS l x q, if q < c then rmN l x j q else (0, 0))) ∧ Below w.heap.size w wr) (fun _ _ i _ => k - (intOf i).toNat)
            case atStart => exact ⟨0, rfl, by omega, HR0.out, HY0.out, HBB.out⟩
            case round =>
              obtain ⟨c, rfl, hc, hro, hwh, hbr⟩ := hrel
              have HRO := Lib.hid hro
              have HWH := Lib.hid hwh
              have HBR := Lib.hid hbr
              have hAr := hro.1
              have hGr := hwh.1
              have i1 : (0 : Int) ≤ (c : Int) := by omega
              clear hro hwh hbr
              by_cases hlt2 : c < k
              · have j2 : (c : Int) < (k : Int) := by omega
                obtain ⟨r1, r2, r3, _, _⟩ := HRO.out.2 c hlt2
                obtain ⟨⟨_, a1, a2⟩, _, f1, f2⟩ := HWH.out.2 c hlt2
                have HW9 := Lib.hid (HWH.out.put12 c (rmN l x j c))
                obtain ⟨RP, hRP⟩ : ∃ RP, rmN l x j c = RP := ⟨_, rfl⟩
                have HRP := Lib.hid hRP
                rw [hRP] at r2 r3 HW9
                obtain ⟨lo, hi⟩ := RP
                simp only at r2 r3 HW9
                dsimp only at a1 a2
                obtain ⟨u1, hu1⟩ : ∃ u1, (if c < c then rmN l x j c else (0, 0)).1 = u1 := ⟨_, rfl⟩
                obtain ⟨u2, hu2⟩ : ∃ u2, (if c < c then rmN l x j c else (0, 0)).2 = u2 := ⟨_, rfl⟩
                rw [hu1] at a1
                rw [hu2] at a2
                clear hRP hu1 hu2
                go_wp2_with fail
                go_region
                go_wp2_with fail
                go_roundw
                case rel =>
                  refine ⟨c + 1, by go_num, by omega, ?_, ?_, by (repeat (first | with_reducible exact Below.refl _ _ | ((with_reducible refine Below.setCell ?_ ?_ _); rotate_left; (focus (first | omega | (simp; done) | (simp; omega)))) | ((with_reducible refine Below.alloc ?_ ?_ _); rotate_left; (focus (first | omega | (simp; done) | (simp; omega)))) | (with_reducible refine Below.drew ?_) | (with_reducible refine below_drewN ?_ _) | ((with_reducible refine Below.trans ?_ (Below.mono HBR.out ?_)); rotate_left; (focus (first | omega | (simp; done) | (simp; omega))))))⟩
                  · exact (HRO.out.keep (w' := (wr.setCell ⟨G, c * 3 + 1, none⟩ (.int .i64 lo)).setCell ⟨G, c * 3 + 2, none⟩ (.int .i64 hi)) ((heap_set_far (by omega)).trans (heap_set_far (by omega))) (by simp)).keep (Below.block (B := wr.heap.size) (by (repeat (first | with_reducible exact Below.refl _ _ | ((with_reducible refine Below.setCell ?_ ?_ _); rotate_left; (focus (first | omega | (simp; done) | (simp; omega)))) | ((with_reducible refine Below.alloc ?_ ?_ _); rotate_left; (focus (first | omega | (simp; done) | (simp; omega)))) | (with_reducible refine Below.drew ?_) | (with_reducible refine below_drewN ?_ _)))) A hAr) (by simp)
                  · refine (HW9.out.keep (Below.block (B := wr.heap.size) (by (repeat (first | with_reducible exact Below.refl _ _ | ((with_reducible refine Below.setCell ?_ ?_ _); rotate_left; (focus (first | omega | (simp; done) | (simp; omega)))) | ((with_reducible refine Below.alloc ?_ ?_ _); rotate_left; (focus (first | omega | (simp; done) | (simp; omega)))) | (with_reducible refine Below.drew ?_) | (with_reducible refine below_drewN ?_ _)))) G (by simpa using hGr)) (by simp)).congr fun q hq => ?_
                    by_cases e : q = c
                    · subst e
                      rw [if_pos rfl, if_pos (by omega), HRP.out]
                    · rw [if_neg e]
                      by_cases e2 : q < c
                      · rw [if_pos e2, if_pos (by omega)]
                      · rw [if_neg e2, if_neg (by omega)]
                case measure => simp [intOf] <;> omega
              · obtain rfl : c = k := by omega
                have HWS := Lib.hid ((HWH.out.congr (g' := fun q => (whyS l x q, whyLo l x q, whyHi l x q)) fun q hq => by rw [if_pos hq, HTK.out]).whys HXL.out (by omega))
                go_wp2_with fail
                exact bodyPost_ret (v := .tuple #[.slice (some ⟨G, 0, none⟩) c c, .int .i64 0]) (by simp [results, Try.results25, go_sem]) rfl ⟨_, rfl, HWS.out, HBR.out⟩
  · simp only [if_neg hE]
    obtain ⟨E, hE2⟩ : ∃ E, sumE l x = E := ⟨_, rfl⟩
    rw [hE2] at hE HS ⊢
    have j1 : (E != 0) = true := by simp [hE]
    simp only [if_neg hE] at HS
    clear hE2 hE hcell
    generalize l.length = m at *
    generalize x.length = n at *
    go_enter Try.func25, Try.ntmps25
    go_wp2_with fail
    (with_reducible refine (HS.out _ HTR.out HX.out).mono ?_); rintro e w1 ⟨rfl, b1⟩; have s1 : w.heap.size ≤ w1.heap.size := (by have := b1.size; first | omega | (simp at this; omega)); have B1 := Lib.hid (show Below w.heap.size w w1 from below_tr (by (repeat (first | with_reducible exact Below.refl _ _ | ((with_reducible refine Below.setCell ?_ ?_ _); rotate_left; (focus (first | omega | (simp; done) | (simp; omega)))) | ((with_reducible refine Below.alloc ?_ ?_ _); rotate_left; (focus (first | omega | (simp; done) | (simp; omega)))) | (with_reducible refine Below.drew ?_) | (with_reducible refine below_drewN ?_ _)))) (b1.mono (by first | omega | (simp; done) | (simp; omega)))); clear b1
    go_wp2_with fail
    exact bodyPost_ret (v := .tuple #[.slice none 0 0, .int .i64 E]) (by simp [results, Try.results25, go_sem]) rfl ⟨_, rfl, whys_nil _ _ _ (by omega), by (repeat (first | with_reducible exact Below.refl _ _ | ((with_reducible refine Below.setCell ?_ ?_ _); rotate_left; (focus (first | omega | (simp; done) | (simp; omega)))) | ((with_reducible refine Below.alloc ?_ ?_ _); rotate_left; (focus (first | omega | (simp; done) | (simp; omega)))) | (with_reducible refine Below.drew ?_) | (with_reducible refine below_drewN ?_ _) | ((with_reducible refine Below.trans ?_ (Below.mono B1.out ?_)); rotate_left; (focus (first | omega | (simp; done) | (simp; omega))))))⟩
end Go.Proofs.Ytopodhcgfmpphaa
