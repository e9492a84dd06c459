/-
  Walk of copseref16.All.
-/
import Derived.Test.YtopodhcgfmpphaaExplM
import Derived.Test.YtopodhcgfmpphaaRefPathS
namespace Go.Proofs.Ytopodhcgfmpphaa
open Go.RowKit

def whyF (p : Int × Int × Int) : List Value := [.int .i64 p.1, .int .i64 p.2.1, .int .i64 p.2.2]

theorem whyF_at : ∀ (ps : List (Int × Int × Int)) (i : Nat) (p : Int × Int × Int), ps[i]? = some p →
    (ps.flatMap whyF)[i * 3]? = some (.int .i64 p.1) ∧ (ps.flatMap whyF)[i * 3 + 1]? = some (.int .i64 p.2.1) ∧ (ps.flatMap whyF)[i * 3 + 2]? = some (.int .i64 p.2.2)
  | [], i, p, h => by simp at h
  | q :: ps, 0, p, h => by
    obtain rfl : q = p := by simpa using h
    exact ⟨rfl, rfl, rfl⟩
  | q :: ps, i + 1, p, h => by
    have := whyF_at ps i p (by simpa using h)
    rw [List.flatMap_cons]
    have e1 : (i + 1) * 3 = i * 3 + 1 + 1 + 1 := by omega
    rw [e1]
    exact this

theorem own_whys {w : World} {base e n : Nat} {v : Value} {ps : List (Int × Int × Int)} (h : w.ownsRow base e 3 v n (ps.flatMap whyF)) (hn : n = ps.length) : WhysR w v ps := by
  subst hn
  rcases h.2 with ⟨rfl, h0⟩ | ⟨g, cap, cur, rfl, hb, hg, h1, h2, h3, h4⟩
  · have : ps = [] := List.eq_nil_of_length_eq_zero h0
    subst this
    exact whys_nil _ _ _ (by omega)
  · refine ⟨some ⟨g, 0, none⟩, cap, rfl, h1, by simpa [maxLen] using h2, fun i p hi => ?_⟩
    have hlt : i < ps.length := (List.getElem?_eq_some_iff.1 hi).1
    obtain ⟨r0, r1, r2⟩ := whyF_at ps i p hi
    have c0 := (h.cellAt (i * 3) (by omega)).trans r0
    have c1 := (h.cellAt (i * 3 + 1) (by omega)).trans r1
    have c2 := (h.cellAt (i * 3 + 2) (by omega)).trans r2
    exact ⟨g, 0, rfl, (Array.getElem?_eq_some_iff.1 hg).1, by rw [Nat.zero_add]; exact c0, by rw [Nat.zero_add]; exact c1, by rw [Nat.zero_add]; exact c2⟩

theorem RoomAt.set0 {w : World} {b : Nat} {r : Int × Int} (h : RoomAt w b 1 r) (v : Value) : RoomAt (w.setCell ⟨b, 0, none⟩ v) b 1 r := by
  obtain ⟨h1, h2, h3, h4, h5⟩ := h
  exact ⟨by simpa using h1, (cell_set_other (by omega)).trans h2, (cell_set_other (by omega)).trans h3, by simpa using h4, by simpa using h5⟩

set_option maxRecDepth 100000 in
set_option maxHeartbeats 4000000 in
theorem rall16_any (v vx : Value) (l : List TreeP) (x : List Int) (w : World) (h : TreesR w v l) (hx : Ints .i64 w vx x) :
    Calls Try.prog 26 #[v, vx] w fun e w' => ∃ vo, e = .returned (.tuple #[vo, .int .i64 (sumE l x)]) ∧ WhysR w' vo (if sumE l x = 0 then whyL l x else []) ∧ Below w.heap.size w w' := by
  have HTR := Lib.hid h
  have HX := Lib.hid hx
  have HS := Lib.hid (fun W (hW : TreesR W v l) (hX : Ints .i64 W vx x) => rsum12_any v vx l x W hW hX)
  obtain ⟨ad, cc, rfl, _, _, q3, hcell⟩ := h
  obtain ⟨ax, cx, rfl, _⟩ := hx
  have HCELL := Lib.hid hcell
  by_cases hE : sumE l x = 0
  · obtain ⟨z1, z2, z3, z4⟩ := sumE_zero hE
    have HM := Lib.hid (fun t (ht : t ∈ l) => allT_mem z3 ht)
    obtain ⟨v1, v2, v3, v4⟩ := vecB_yes z4
    rw [hE] at HS ⊢
    simp only [if_true] at HS ⊢
    have HVB := Lib.hid z4
    have HDM := Lib.hid v3
    have HST := Lib.hid (fun i t (hi : l[i]? = some t) k => whyS_step hi x k)
    have HRM := Lib.hid (fun i t (hi : l[i]? = some t) k => rmN_step hi x k)
    have HWB := Lib.hid (fun i k => whyS_bd (l := l.take i) (fun t ht => (HM.out t (List.mem_of_mem_take ht)).1) x k)
    have HWL := Lib.hid (show whyL l x = (List.range x.length).map fun k => (whyS l x k, rmN l x l.length k) by
      unfold whyL rmN
      rw [List.take_length])
    obtain ⟨m, hm⟩ : ∃ m, l.length = m := ⟨_, rfl⟩
    rw [hm] at HTR HS HWL z1 q3 ⊢
    have HL := Lib.hid hm
    obtain ⟨n, hn⟩ : ∃ n, x.length = n := ⟨_, rfl⟩
    rw [hn] at HX HS HWL v3 ⊢
    have HXL := Lib.hid hn
    have x8 : n ≤ 8 := by omega
    have i8 : (n : Int) ≤ 8 := by omega
    have m16 : (m : Int) ≤ 16 := by omega
    rw [HWL.out]
    generalize sumV l x = SV at *
    clear hE z2 z3 z4 v1 v2 v3 v4 hm hn hcell
    go_enter Try.func26, Try.ntmps26
    go_wp2_with fail
    (with_reducible refine (HS.out _ HTR.out HX.out).mono ?_); rintro e w1 ⟨rfl, b1⟩; have s1 : w.heap.size ≤ w1.heap.size := (by have := b1.size; first | omega | (simp at this; omega)); have B1 := Lib.hid (show Below w.heap.size w w1 from below_tr (by (repeat (first | with_reducible exact Below.refl _ _ | ((with_reducible refine Below.setCell ?_ ?_ _); rotate_left; (focus (first | omega | (simp; done) | (simp; omega)))) | ((with_reducible refine Below.alloc ?_ ?_ _); rotate_left; (focus (first | omega | (simp; done) | (simp; omega)))) | (with_reducible refine Below.drew ?_) | (with_reducible refine below_drewN ?_ _)))) (b1.mono (by first | omega | (simp; done) | (simp; omega)))); clear b1
    go_wp2_with fail
    go_loopw [8, 9, 10, 11, 12, 13, 14, 15, 16] (fun out i _ _ _ _ _ _ _ wr => ∃ k : Nat, i = .int .i64 k ∧ k ≤ n ∧ wr.ownsRow w1.heap.size 47 3 out k (((List.range k).map fun q => (whyS l x q, rmN l x m q)).flatMap whyF) ∧ Below w.heap.size w wr ∧ w1.heap.size ≤ wr.heap.size) (fun _ i _ _ _ _ _ _ _ _ => n - (intOf i).toNat)
    case atStart => exact ⟨0, rfl, by omega, World.ownsRow_nil _ _ _ _, B1.out, Nat.le_refl _⟩
    case round =>
      obtain ⟨k, rfl, hk, hown, hbr, hsz⟩ := hrel
      have HOWN := Lib.hid hown
      have HBR := Lib.hid hbr
      have i1 : (0 : Int) ≤ (k : Int) := by omega
      by_cases hlt : k < n
      · have i2 : (k : Int) < (n : Int) := by omega
        clear hown hbr
        go_wp2_with fail
        obtain ⟨W5, hW5⟩ : ∃ W5, W5 = wr.alloc (.cells #[.int .i64 0, .int .i64 (-2147483648), .int .i64 2147483647] 47) := ⟨_, rfl⟩
        have s5 : wr.heap.size + 1 = W5.heap.size := by rw [hW5]; simp
        have B5 := Lib.hid (show Below wr.heap.size wr W5 by rw [hW5]; (repeat (first | with_reducible exact Below.refl _ _ | ((with_reducible refine Below.setCell ?_ ?_ _); rotate_left; (focus (first | omega | (simp; done) | (simp; omega)))) | ((with_reducible refine Below.alloc ?_ ?_ _); rotate_left; (focus (first | omega | (simp; done) | (simp; omega)))) | (with_reducible refine Below.drew ?_) | (with_reducible refine below_drewN ?_ _))))
        have t0 : W5.cell? ⟨wr.heap.size, 0, none⟩ = some (.int .i64 0) := by rw [hW5]; go_simp
        have R5 := Lib.hid (show RoomAt W5 wr.heap.size 1 all0 from ⟨by omega, by rw [hW5]; go_simp; rfl, by rw [hW5]; go_simp; rfl, by rw [hW5]; go_simp, by rw [hW5]; go_simp⟩)
        have g0 : W5.frozen? ⟨wr.heap.size, 0, none⟩ = false := by rw [hW5]; go_simp
        have BB5 := Lib.hid (below_tr HBR.out (B5.out.mono HBR.out.size))
        have OWNK := Lib.hid (fun W' (h : ∀ g, g < wr.heap.size → W'.heap[g]? = W5.heap[g]?) => own_keep (w' := W') HOWN.out fun g _ hg => (h g hg).trans (B5.out.block g hg))
        rw [← hW5]
        obtain ⟨C, hC⟩ : ∃ C, wr.heap.size = C := ⟨_, rfl⟩
        rw [hC] at R5 t0 g0 s5 hsz OWNK ⊢
        clear hW5 B5 hC HOWN HBR
        go_loopw [11, 12, 13, 14, 15, 16] (fun i _ _ _ _ _ wr => ∃ j : Nat, i = .int .i64 j ∧ j ≤ m ∧ wr.cell? ⟨C, 0, none⟩ = some (.int .i64 (whyS (l.take j) x k)) ∧ wr.frozen? ⟨C, 0, none⟩ = false ∧ RoomAt wr C 1 (rmN l x j k) ∧ Only C W5 wr) (fun i _ _ _ _ _ _ => m - (intOf i).toNat)
        case atStart => exact ⟨0, rfl, by omega, t0, g0, R5.out, Only.refl _ _⟩
        case round =>
          obtain ⟨j, rfl, hj, hc0, hf0, hra, honly⟩ := hrel
          have HON := Lib.hid honly
          have HRA := Lib.hid hra
          have s6 := honly.1.size
          have BB6 := Lib.hid (show Below w.heap.size w wr from below_tr BB5.out (honly.1.mono (by have := B1.out.size; omega)))
          have j1 : (0 : Int) ≤ (j : Int) := by omega
          clear honly hra
          by_cases hlt2 : j < m
          · have j2 : (j : Int) < (m : Int) := by omega
            obtain ⟨t, ht⟩ := getElem?_ex (l := l) (k := j) (by rw [HL.out]; exact hlt2)
            obtain ⟨hTB, hTD⟩ := HM.out t (List.mem_of_getElem? ht)
            have hV : vecB x t.dim = true := by rw [hTD]; exact HVB.out
            have hP : pathE t x = 0 := by unfold pathE; rw [if_pos hTB, if_pos hV]
            have hdk : (k : Int) < t.dim := by have := HDM.out; have := HXL.out; omega
            obtain ⟨p1, p2⟩ := roomE_yes (col := (k : Int)) hP i1 hdk
            have HSP := Lib.hid (fun vt W (hT : TreeR W vt t) (hX : Ints .i64 W (.slice ax n cx) x) => rsteps_any vt (.slice ax n cx) t x W hT hX)
            rw [hP] at HSP
            simp only [if_true] at HSP
            have HRO := Lib.hid (fun vt W (hT : TreeR W vt t) (hX : Ints .i64 W (.slice ax n cx) x) => rroom_any vt (.slice ax n cx) t x k W hT hX)
            rw [p1, p2, show (k : Int).toNat = k from rfl] at HRO
            have HWS := Lib.hid (HST.out j t ht k)
            have HRS := Lib.hid (HRM.out j t ht k)
            obtain ⟨n1, n2⟩ := cntI_bd hTB x k
            obtain ⟨q1, q2⟩ := HWB.out j k
            have q3' : whyS (l.take j) x k ≤ 96 := by
              have h1 : (l.take j).length ≤ j := by rw [List.length_take]; omega
              omega
            have HCL := Lib.hid (show (cntL t x).length = n ∧ (cntL t x)[k]? = some (cntI t x k) by
              have h1 := HXL.out
              have h2 := HDM.out
              have h3 : t.dim.toNat = n := by omega
              unfold cntL
              rw [h3]
              exact ⟨by simp, by rw [List.getElem?_map, List.getElem?_range hlt]; rfl⟩)
            obtain ⟨b, o, nv, rfl, hb, c0, c1, hn⟩ := HCELL.out j t ht
            have e0 := (BB6.out.cell (p := ⟨b, o + j * 2, none⟩) hb).trans c0
            have e1 := (BB6.out.cell (p := ⟨b, o + j * 2 + 1, none⟩) hb).trans c1
            have HT := Lib.hid (show TreeR w (.agg #[.int .i64 t.dim, nv]) t from ⟨nv, rfl, hn⟩)
            obtain ⟨na, nc, rfl, _⟩ := hn
            obtain ⟨CN, hCN⟩ : ∃ CN, cntI t x k = CN := ⟨_, rfl⟩
            obtain ⟨S, hS⟩ : ∃ S, whyS (l.take j) x k = S := ⟨_, rfl⟩
            obtain ⟨RP, hRP⟩ : ∃ RP, roomP t x k = RP := ⟨_, rfl⟩
            obtain ⟨RM, hRM⟩ : ∃ RM, rmN l x j k = RM := ⟨_, rfl⟩
            rw [hCN] at n1 n2 HWS HCL
            rw [hS] at hc0 q1 q2 q3' HWS
            rw [hRP] at HRS HRO
            rw [hRM] at HRS HRA
            obtain ⟨lo, hi⟩ := RP
            obtain ⟨lo0, hi0⟩ := RM
            simp only at HRS HRO
            generalize t.nodes.length = tn at *
            generalize t.dim = D at *
            clear ht hTB hTD hV hP c0 c1 q2 p1 p2 hCN hS hRP hRM
            go_wp2_with fail
            (with_reducible refine (HSP.out _ _ (HT.out.below BB6.out) (HX.out.below BB6.out)).mono ?_)
            rintro e w7 ⟨vs, rfl, is, b7⟩
            have IS := Lib.hid is
            obtain ⟨sa, sc, rfl, _⟩ := is
            rw [HCL.out.1] at IS ⊢
            have hlt7 := HRA.out.1
            have u0 := (b7.cell (p := ⟨C, 0, none⟩) hlt7).trans hc0
            have u1 := (b7.frozen (p := ⟨C, 0, none⟩) hlt7).trans hf0
            have hbw : b < wr.heap.size := Nat.lt_of_lt_of_le hb BB6.out.size
            have e2 := (b7.cell (p := ⟨b, o + j * 2, none⟩) hbw).trans e0
            have e3 := (b7.cell (p := ⟨b, o + j * 2 + 1, none⟩) hbw).trans e1
            have R7 := Lib.hid (HRA.out.below b7)
            have BB7 := Lib.hid (below_tr BB6.out (b7.mono BB6.out.size))
            have ON7 := Lib.hid (HON.out.trans (Only.of b7 hlt7))
            have s7 := b7.size
            clear b7 e0 e1 hc0 hf0 HRA HON
            go_wp2_with fail
            (with_reducible refine (HRO.out _ _ (HT.out.below BB7.out) (HX.out.below BB7.out)).mono ?_)
            rintro e w8 ⟨rfl, b8⟩
            have hlt8 := R7.out.1
            have y0 := (b8.cell (p := ⟨C, 0, none⟩) hlt8).trans u0
            have y1 := (b8.frozen (p := ⟨C, 0, none⟩) hlt8).trans u1
            have R8 := Lib.hid (R7.out.below b8)
            have I8 := Lib.hid (IS.out.below b8)
            have ON8 := Lib.hid (ON7.out.trans (Only.of b8 hlt8))
            have s8 := b8.size
            clear b8 u0 u1 e2 e3 R7 IS ON7
            obtain ⟨_, _, e, _, _, _, g⟩ := I8.out
            rw [HCL.out.1] at e
            injection e with z1 z2 z3
            subst z1 z3
            obtain ⟨sb, so, rfl, hsb, hsc⟩ := g k _ HCL.out.2
            obtain ⟨_, r1, r2, r3, r4⟩ := R8.out
            clear g
            have r1' : w8.cell? ⟨C, 1, none⟩ = some (.int .i64 lo0) := r1
            have r2' : w8.cell? ⟨C, 2, none⟩ = some (.int .i64 hi0) := r2
            have r3' : w8.frozen? ⟨C, 1, none⟩ = false := r3
            have r4' : w8.frozen? ⟨C, 2, none⟩ = false := r4
            clear r1 r2 r3 r4
            by_cases h1 : lo0 < lo
            · by_cases h2 : hi < hi0
              · have HRM2 := Lib.hid (show rmN l x (j + 1) k = (lo, hi) by rw [HRS.out, show max lo0 lo = lo by omega, show min hi0 hi = hi by omega])
                go_wp2_with fail
                go_region
                go_wp2_with fail
                go_roundw
                case rel => exact ⟨j + 1, by go_num, by omega, by rw [HWS.out]; go_simp, by go_simp, by rw [HRM2.out]; exact ((R8.out.set0 _).set1 lo).set2 hi, (((ON8.out.set _).set _).set _).drewN 1⟩
                case measure => simp [intOf] <;> omega
              · have HRM2 := Lib.hid (show rmN l x (j + 1) k = (lo, hi0) by rw [HRS.out, show max lo0 lo = lo by omega, show min hi0 hi = hi0 by omega])
                go_wp2_with fail
                go_region
                go_wp2_with fail
                go_roundw
                case rel => exact ⟨j + 1, by go_num, by omega, by rw [HWS.out]; go_simp, by go_simp, by rw [HRM2.out]; exact (R8.out.set0 _).set1 lo, ((ON8.out.set _).set _).drewN 1⟩
                case measure => simp [intOf] <;> omega
            · by_cases h2 : hi < hi0
              · have HRM2 := Lib.hid (show rmN l x (j + 1) k = (lo0, hi) by rw [HRS.out, show max lo0 lo = lo0 by omega, show min hi0 hi = hi by omega])
                go_wp2_with fail
                go_region
                go_wp2_with fail
                go_roundw
                case rel => exact ⟨j + 1, by go_num, by omega, by rw [HWS.out]; go_simp, by go_simp, by rw [HRM2.out]; exact (R8.out.set0 _).set2 hi, ((ON8.out.set _).set _).drewN 1⟩
                case measure => simp [intOf] <;> omega
              · have HRM2 := Lib.hid (show rmN l x (j + 1) k = (lo0, hi0) by rw [HRS.out, show max lo0 lo = lo0 by omega, show min hi0 hi = hi0 by omega])
                go_wp2_with fail
                go_region
                go_wp2_with fail
                go_roundw
                case rel => exact ⟨j + 1, by go_num, by omega, by rw [HWS.out]; go_simp, by go_simp, by rw [HRM2.out]; exact R8.out.set0 _, (ON8.out.set _).drewN 1⟩
                case measure => simp [intOf] <;> omega
          · obtain rfl : j = m := by omega
            obtain ⟨_, r1, r2, r3, r4⟩ := HRA.out
            have r1' : wr.cell? ⟨C, 1, none⟩ = some (.int .i64 (rmN l x j k).1) := r1
            have r2' : wr.cell? ⟨C, 2, none⟩ = some (.int .i64 (rmN l x j k).2) := r2
            rw [List.take_of_length_le (by rw [HL.out]; exact Nat.le_refl _)] at hc0
            have OWN6 := Lib.hid (OWNK.out wr fun g hg => HON.out.1.block g hg)
            have HHW := Lib.hid (HRA.out.1)
            clear r1 r2 r3 r4
            go_wp2_with (at_builtin; go_must (refine app1 rfl _ _ 41 rfl Try.underlying41 eiWhy w1.heap.size (by rfl) OWN6.out (by rfl) rfl (by simp [Value.oneCell']) (by omega) (by omega) ?_))
            intro v9 w9 hown9 hb9 _
            have OWN9 := Lib.hid hown9
            have B9 := Lib.hid hb9
            clear hown9 hb9
            go_wp2_with fail
            go_roundw
            case rel =>
              refine ⟨k + 1, by go_num, by omega, ?_, ?_, ?_⟩
              · have hown := OWN9.out
                rw [List.range_succ, List.map_append, List.flatMap_append]
                simp only [List.map_cons, List.map_nil, List.flatMap_cons, List.flatMap_nil, whyF]
                exact hown
              · exact by (repeat (first | with_reducible exact Below.refl _ _ | ((with_reducible refine Below.setCell ?_ ?_ _); rotate_left; (focus (first | omega | (simp; done) | (simp; omega)))) | ((with_reducible refine Below.alloc ?_ ?_ _); rotate_left; (focus (first | omega | (simp; done) | (simp; omega)))) | (with_reducible refine Below.drew ?_) | (with_reducible refine below_drewN ?_ _) | ((with_reducible refine Below.trans ?_ (Below.mono B9.out ?_)); rotate_left; (focus (first | omega | (simp; done) | (simp; omega)))) | ((with_reducible refine Below.trans ?_ (Below.mono BB6.out ?_)); rotate_left; (focus (first | omega | (simp; done) | (simp; omega))))))
              · have := B9.out.size; first | omega | (simp at this; omega)
            case measure => simp [intOf] <;> omega
      · obtain rfl : k = n := by omega
        have HWY := Lib.hid (own_whys hown (by simp))
        clear hown hbr
        go_wp2_with fail
        exact bodyPost_ret (v := .tuple #[u8, .int .i64 0]) (by simp [results, Try.results26, go_sem]) rfl ⟨_, rfl, HWY.out, HBR.out⟩
  · simp only [if_neg hE]
    obtain ⟨E, hE2⟩ : ∃ E, sumE l x = E := ⟨_, rfl⟩
    rw [hE2] at hE HS ⊢
    have j1 : (E != 0) = true := by simp [hE]
    simp only [if_neg hE] at HS
    clear hE2 hE hcell HCELL
    generalize l.length = m at *
    generalize x.length = n at *
    go_enter Try.func26, Try.ntmps26
    go_wp2_with fail
    (with_reducible refine (HS.out _ HTR.out HX.out).mono ?_); rintro e w1 ⟨rfl, b1⟩; have s1 : w.heap.size ≤ w1.heap.size := (by have := b1.size; first | omega | (simp at this; omega)); have B1 := Lib.hid (show Below w.heap.size w w1 from below_tr (by (repeat (first | with_reducible exact Below.refl _ _ | ((with_reducible refine Below.setCell ?_ ?_ _); rotate_left; (focus (first | omega | (simp; done) | (simp; omega)))) | ((with_reducible refine Below.alloc ?_ ?_ _); rotate_left; (focus (first | omega | (simp; done) | (simp; omega)))) | (with_reducible refine Below.drew ?_) | (with_reducible refine below_drewN ?_ _)))) (b1.mono (by first | omega | (simp; done) | (simp; omega)))); clear b1
    go_wp2_with fail
    exact bodyPost_ret (v := .tuple #[.slice none 0 0, .int .i64 E]) (by simp [results, Try.results26, go_sem]) rfl ⟨_, rfl, whys_nil _ _ _ (by omega), by (repeat (first | with_reducible exact Below.refl _ _ | ((with_reducible refine Below.setCell ?_ ?_ _); rotate_left; (focus (first | omega | (simp; done) | (simp; omega)))) | ((with_reducible refine Below.alloc ?_ ?_ _); rotate_left; (focus (first | omega | (simp; done) | (simp; omega)))) | (with_reducible refine Below.drew ?_) | (with_reducible refine below_drewN ?_ _) | ((with_reducible refine Below.trans ?_ (Below.mono B1.out ?_)); rotate_left; (focus (first | omega | (simp; done) | (simp; omega))))))⟩
end Go.Proofs.Ytopodhcgfmpphaa
