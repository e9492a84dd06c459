/-
  BagN: Walk of Rank, whatever is asked for.
-/
import Derived.Test.YtjmjnkilgoelbaaJ2a
namespace Go.Proofs.Ytjmjnkilgoelbaa
open Go.RowKit

set_option maxRecDepth 100000 in
set_option maxHeartbeats 4000000 in
theorem rankIn_any (A B : Nat) (a : Option Addr) (n c : Nat) (l : List (Int × Int)) (p q : Int) (i : Nat) (x : Int × Int) (w : World) (h : PairsR w (.slice a n c) l) (hn : l.length = n) (hx : l[i]? = some x) (h1 : scoreB x = true) (h2 : scoreB (p, q) = true)
    (hA : w.cell? ⟨A, 0, none⟩ = some (.slice a n c)) (hB0 : w.cell? ⟨B, 0, none⟩ = some (.int .i64 p)) (hB1 : w.cell? ⟨B, 1, none⟩ = some (.int .i64 q)) :
    Calls Try.prog 83 #[.int .i64 i, .pointer (some ⟨A, 0, none⟩), .pointer (some ⟨B, 0, none⟩)] w fun e w' => e = .returned (.bool (decide (0 < oddI x (p, q)))) ∧ Below w.heap.size w w' := by
  obtain ⟨b, o, rfl, hb, c0, c1⟩ := h.cells hx
  obtain ⟨r, s⟩ := x
  have hil : i < n := by rw [← hn]; exact (List.getElem?_eq_some_iff.1 hx).1
  have HO := Lib.hid (fun W => bodd_any r s p q W h1 h2)
  have i1 : (0 : Int) ≤ (i : Int) := by omega
  have i2 : (i : Int) < (n : Int) := by omega
  obtain ⟨R, hR⟩ : ∃ R, oddI (r, s) (p, q) = R := ⟨_, rfl⟩
  rw [hR] at HO ⊢
  dsimp only at c0 c1
  have hlA := World.block_lt_of_cell? _ _ hA
  have hlB := World.block_lt_of_cell? _ _ hB0
  dsimp only at hlA hlB
  clear h hx h1 h2 hR hn
  go_enter Try.func83, Try.ntmps83
  go_wp2_with fail
  refine wp_region_held_drew (S := fun w' => w'.cell? ⟨A, 0, none⟩ = some (.slice (some ⟨b, o, none⟩) n c) ∧ w'.cell? ⟨b, o + i * 2, none⟩ = some (.int .i64 r) ∧ w'.cell? ⟨b, o + i * 2 + 1, none⟩ = some (.int .i64 s) ∧ w'.cell? ⟨B, 0, none⟩ = some (.int .i64 p) ∧ w'.cell? ⟨B, 1, none⟩ = some (.int .i64 q)) (by kernel_rfl) ?_ (fun hHeld => ?_); (focus (first | with_reducible exact True.intro | ((try dsimp only); and_intros <;> first | (go_simp; done) | (go_keep; done)))); (refine lexTk 0 (v := ?_) rfl hHeld ?_ (by kernel_rfl) (fun _ _ _ h => h) ?_ ?_; rotate_left 2; (focus rfl); (focus (intro w hSw; (try dsimp only at hSw); first | (go_simp; done) | (go_simp; with_reducible rfl)))); (try simp only [Act.put, List.setIfInBounds_toArray, List.set_cons_zero, List.set_cons_succ]); (refine lexTk 1 (v := ?_) rfl hHeld ?_ (by kernel_rfl) (fun _ _ _ h => h) ?_ ?_; rotate_left 2; (focus rfl); (focus (intro w hSw; (try dsimp only at hSw); first | (go_simp; done) | (go_simp; with_reducible rfl)))); (try simp only [Act.put, List.setIfInBounds_toArray, List.set_cons_zero, List.set_cons_succ]); (refine lexTk 2 (v := ?_) rfl hHeld ?_ (by kernel_rfl) (fun _ _ _ h => h) ?_ ?_; rotate_left 2; (focus rfl); (focus (intro w hSw; (try dsimp only at hSw); first | (go_simp; done) | (go_simp; with_reducible rfl)))); (try simp only [Act.put, List.setIfInBounds_toArray, List.set_cons_zero, List.set_cons_succ]); (refine lexTk 3 (v := ?_) rfl hHeld ?_ (by kernel_rfl) (fun _ _ _ h => h) ?_ ?_; rotate_left 2; (focus rfl); (focus (intro w hSw; (try dsimp only at hSw); first | (go_simp; done) | (go_simp; with_reducible rfl)))); (try simp only [Act.put, List.setIfInBounds_toArray, List.set_cons_zero, List.set_cons_succ]); (refine lexTk 4 (v := ?_) rfl hHeld ?_ (by kernel_rfl) (fun _ _ _ h => h) ?_ ?_; rotate_left 2; (focus rfl); (focus (intro w hSw; (try dsimp only at hSw); first | (go_simp; done) | (go_simp; with_reducible rfl)))); (try simp only [Act.put, List.setIfInBounds_toArray, List.set_cons_zero, List.set_cons_succ]); refine lexHv 5 rfl ?_ (by kernel_rfl); (intro K hK); (go_simp; go_at_call 84; (with_reducible refine (HO.out _).mono ?_); rintro e w1 ⟨rfl, b1⟩; have s1 : w.heap.size ≤ w1.heap.size := sz b1; have B1 := Lib.hid (Bc (B := w.heap.size) (a := w) (by (repeat (first | with_reducible exact Below.refl _ _ | with_reducible refine Bs ?_ | with_reducible refine Ba ?_ | with_reducible refine Bd ?_ | with_reducible refine Bn ?_))) b1); have c1_0 : w1.cell? ⟨A, 0, none⟩ = some (.slice (some ⟨b, o, none⟩) n c) := kc b1 (by go_simp) (by first | omega | (simp; done) | (simp; omega)); have c1_1 : w1.cell? ⟨b, o + i * 2, none⟩ = some (.int .i64 r) := kc b1 (by go_simp) (by first | omega | (simp; done) | (simp; omega)); have c1_2 : w1.cell? ⟨b, o + i * 2 + 1, none⟩ = some (.int .i64 s) := kc b1 (by go_simp) (by first | omega | (simp; done) | (simp; omega)); obtain ⟨c1_3, c1_4⟩ := k2 (B) (.int .i64 p) (.int .i64 q) b1 (by and_intros <;> go_simp); obtain ⟨l1_0, n1_0, m1_0⟩ := lnm (show A < w1.heap.size by omega); obtain ⟨l1_1, n1_1, m1_1⟩ := lnm (show b < w1.heap.size by omega); obtain ⟨l1_2, n1_2, m1_2⟩ := lnm (show B < w1.heap.size by omega); clear b1; (try go_wp2_with fail)); refine hK.out _ _ ?_ ?_; (focus (first | with_reducible exact True.intro | ((try dsimp only); and_intros <;> first | (go_simp; done) | (go_keep; done)))); (clear hHeld hK K); (intro hHeld); (try simp only [Act.put, List.setIfInBounds_toArray, List.set_cons_zero, List.set_cons_succ]); (refine lexTk 6 (v := ?_) rfl hHeld ?_ (by kernel_rfl) (fun _ _ _ h => h) ?_ ?_; rotate_left 2; (focus rfl); (focus (intro w hSw; (try dsimp only at hSw); first | (go_simp; done) | (go_simp; with_reducible rfl)))); (try simp only [Act.put, List.setIfInBounds_toArray, List.set_cons_zero, List.set_cons_succ]); (refine lexTk 7 (v := ?_) rfl hHeld ?_ (by kernel_rfl) (fun _ _ _ h => h) ?_ ?_; rotate_left 2; (focus rfl); (focus (intro w hSw; (try dsimp only at hSw); first | (go_simp; done) | (go_simp; with_reducible rfl)))); (try simp only [Act.put, List.setIfInBounds_toArray, List.set_cons_zero, List.set_cons_succ]); refine wpAnyH_done (by kernel_rfl) ?_ _
  go_wp2_with fail
  go_ret
  exact ⟨rfl, B1.out⟩

theorem rankAt_any (A B : Nat) (a : Option Addr) (n c : Nat) (l : List (Int × Int)) (p q : Int) (i : Nat) (W : World) (hW : PairsR W (.slice a n c) l) (hn : l.length = n) (ha : allS l = true) (hs : scoreB (p, q) = true) (hi : i < n)
    (hA : W.cell? ⟨A, 0, none⟩ = some (.slice a n c)) (hB0 : W.cell? ⟨B, 0, none⟩ = some (.int .i64 p)) (hB1 : W.cell? ⟨B, 1, none⟩ = some (.int .i64 q)) :
    Calls Try.prog 83 #[.int .i64 i, .pointer (some ⟨A, 0, none⟩), .pointer (some ⟨B, 0, none⟩)] W fun e w' => e = .returned (.bool (gtB l (p, q) i)) ∧ Below W.heap.size W w' := by
  obtain ⟨x, hx⟩ := getElem?_ex (l := l) (k := i) (by omega)
  have := rankIn_any A B a n c l p q i x W hW hn hx (allS_mem ha (List.mem_of_getElem? hx)) hs hA hB0 hB1
  rw [← gtB_some hx] at this
  exact this

set_option maxRecDepth 100000 in
set_option maxHeartbeats 8000000 in
theorem rank_any (P : Nat) (v : Value) (vs : List Value) (bs : List (List (Int × Int))) (M : Nat) (p q : Int) (w : World) (h : BagAt w P v vs bs M) (hp : BagP bs) (hs : scoreB (p, q) = true) :
    Calls Try.prog 20 #[.pointer (some ⟨P, 0, none⟩), .agg #[.int .i64 p, .int .i64 q]] w fun e w' => e = .returned (.tuple #[.int .i64 (ltC (p, q) bs.flatten), .int .i64 (eqC (p, q) bs.flatten), .int .i64 0]) ∧ Below w.heap.size w w' := by
  have HS := Lib.hid (fun W => sis_any p q W)
  rw [hs] at HS
  have HSC := Lib.hid hs
  have hb := bags_len hp.some
  have hm := hp.most
  have hlt := h.lt
  obtain ⟨a, c, rfl⟩ : ∃ a c, v = .slice a bs.length c := by
    rcases h.row.2 with ⟨rfl, h1⟩ | ⟨g, c, _, rfl, _⟩
    · exact ⟨none, 0, by rw [h1]⟩
    · exact ⟨_, _, rfl⟩
  have HB := Lib.hid h
  have HP := Lib.hid hp
  have HBL := Lib.hid (fun W (hW : BagAt W P (.slice a bs.length c) vs bs M) => block_any P _ vs bs M p q W hW hp hs)
  have hbn : bs.length ≤ 4096 := by omega
  have hac : bs.length ≤ c := by
    rcases h.row.2 with ⟨h0, h1⟩ | ⟨g, c', _, h0, _, _, h1, _⟩
    · omega
    · injection h0 with _ _ h0; omega
  clear h hp hs hb hm
  obtain ⟨n, hn⟩ : ∃ n, bs.length = n := ⟨_, rfl⟩
  have HN := Lib.hid hn
  rw [hn] at HB HBL hbn hac
  clear hn
  have c0 := HB.out.c0
  go_enter Try.func20, Try.ntmps20
  go_wp2_with fail
  (with_reducible refine (HS.out _).mono ?_); rintro e w1 ⟨rfl, b1⟩; have s1 : w.heap.size + 1 ≤ w1.heap.size := sz b1; have B1 := Lib.hid (Bc (B := w.heap.size) (a := w) (by (repeat (first | with_reducible exact Below.refl _ _ | with_reducible refine Bs ?_ | with_reducible refine Ba ?_ | with_reducible refine Bd ?_ | with_reducible refine Bn ?_))) b1); have c1_0 : w1.cell? ⟨P, 0, none⟩ = some (.slice a n c) := kc b1 (by go_simp) (by first | omega | (simp; done) | (simp; omega)); obtain ⟨c1_1, c1_2⟩ := k2 (w.heap.size) (.int .i64 p) (.int .i64 q) b1 (by and_intros <;> go_simp); obtain ⟨l1_0, n1_0, m1_0⟩ := lnm (show P < w1.heap.size by omega); obtain ⟨l1_1, n1_1, m1_1⟩ := lnm (show w.heap.size < w1.heap.size by omega); clear b1
  go_wp2_with fail
  (with_reducible refine (HBL.out _ (HB.out.below (by (repeat (first | with_reducible exact Below.refl _ _ | with_reducible refine Bs ?_ | with_reducible refine Ba ?_ | with_reducible refine Bd ?_ | with_reducible refine Bn ?_ | with_reducible refine Bt B1.out ?_))))).mono ?_); rintro e w2 ⟨r, rfl, hr, hr1, hr2, b2⟩; have s2 : w1.heap.size ≤ w2.heap.size := sz b2; have B2 := Lib.hid (Bc (B := w.heap.size) (a := w) (by (repeat (first | with_reducible exact Below.refl _ _ | with_reducible refine Bs ?_ | with_reducible refine Ba ?_ | with_reducible refine Bd ?_ | with_reducible refine Bn ?_ | with_reducible refine Bt B1.out ?_))) b2); have c2_0 : w2.cell? ⟨P, 0, none⟩ = some (.slice a n c) := kc b2 (by go_simp) (by first | omega | (simp; done) | (simp; omega)); obtain ⟨c2_1, c2_2⟩ := k2 (w.heap.size) (.int .i64 p) (.int .i64 q) b2 (by and_intros <;> go_simp); obtain ⟨l2_0, n2_0, m2_0⟩ := lnm (show P < w2.heap.size by omega); obtain ⟨l2_1, n2_1, m2_1⟩ := lnm (show w.heap.size < w2.heap.size by omega); clear b2
  have R1 := Lib.hid hr1
  clear hr1 hr2
  have BW := Lib.hid (show Below w.heap.size w w2 from B2.out)
  have HBW := Lib.hid (HB.out.below BW.out)
  have i0 : (r : Int) ≤ (n : Int) := by omega
  have i00 : (r : Int) ≤ (c : Int) := by omega
  have i01 : r ≤ c := by omega
  have hMost := HP.out.most
  have HTL := Lib.hid (fun j => show (bs.take j).flatten.length ≤ 4096 from by
    have h1 := HP.out.most
    rw [flat_take_drop bs j, List.length_append] at h1
    omega)
  clear hMost
  go_wp2_with fail
  go_loopw [7, 33] (fun less i wr => ∃ j : Nat, i = .int .i64 j ∧ j ≤ r ∧ less = .int .i64 (bs.take j).flatten.length ∧ w2 = wr) (fun _ i _ => r - (intOf i).toNat)
  case atStart => exact ⟨0, rfl, by omega, rfl, rfl⟩
  case round =>
    obtain ⟨j, rfl, hj, rfl, rfl⟩ := hrel
    have ht := HTL.out j
    by_cases hjr : j < r
    · obtain ⟨l, hl⟩ := getElem?_ex (l := bs) (k := j) (by rw [HN.out]; omega)
      have hmm := List.mem_of_getElem? hl
      have hl32 := HP.out.few l hmm
      obtain ⟨g, c2, b, cc, e, _, hgi, _, _, hlc, hcm⟩ := HBW.out.at hl (HP.out.some l hmm)
      rw [HN.out] at e
      injection e with e1 e2 e3
      subst e1 e3
      have HSS := Lib.hid (show (bs.take (j + 1)).flatten.length = (bs.take j).flatten.length + l.length by rw [flat_take_succ hl, List.length_append])
      obtain ⟨n2, hn2⟩ : ∃ n2, l.length = n2 := ⟨_, rfl⟩
      rw [hn2] at hgi hlc hl32 HSS
      obtain ⟨s, hs⟩ : ∃ s, (bs.take j).flatten.length = s := ⟨_, rfl⟩
      rw [hs] at HSS ht ⊢
      clear hn2 hl hmm hs
      have i1 : (0 : Int) ≤ (j : Int) := by omega
      have i2 : (j : Int) < (r : Int) := by omega
      go_wp2_with fail
      refine ⟨⟨j + 1, by go_num, by omega, by rw [HSS.out]; go_num, trivial⟩, by simp [intOf]; omega⟩
    · have : j = r := by omega
      subst this
      obtain ⟨hA1, hA2⟩ := ranks_ahead HP.out HSC.out R1.out
      rw [← hA1] at ht ⊢
      have HA2 := Lib.hid hA2.symm
      clear hA1 hA2
      by_cases hjn : j < n
      · have hjc : ¬ j = c := by omega
        have hjc2 : ¬ c = j := by omega
        obtain ⟨l0, hl0⟩ := getElem?_ex (l := bs) (k := j) (by rw [HN.out]; exact hjn)
        obtain ⟨g, c2, _, _, e, _, _, _, _, _, _⟩ := HBW.out.at hl0 (HP.out.some l0 (List.mem_of_getElem? hl0))
        rw [HN.out] at e
        injection e with e1 e2 e3
        subst e1 e3
        clear hl0
        have hgl : g < w2.heap.size := HBW.out.foot (List.mem_cons.2 (.inr (mem_blks0 rfl)))
        obtain ⟨A0, hA0⟩ : ∃ A, (ltC (p, q) (bs.take j).flatten) = A := ⟨_, rfl⟩
        have HA0 := Lib.hid hA0
        rw [hA0] at ht ⊢
        obtain ⟨A1, hA1⟩ : ∃ A, (eqC (p, q) (bs.take j).flatten) = A := ⟨_, rfl⟩
        have HA1 := Lib.hid hA1
        rw [hA1] at HA2
        clear hA0 hA1
        go_wp2_with fail
        go_loopw [7, 8, 49] (fun less same i wr => ∃ k : Nat, i = .int .i64 k ∧ k ≤ n - j ∧ less = .int .i64 (ltC (p, q) (bs.take (j + k)).flatten) ∧ same = .int .i64 (eqC (p, q) (bs.take (j + k)).flatten) ∧ Below w.heap.size w wr ∧ wr.cell? ⟨w.heap.size, 0, none⟩ = some (.int .i64 p) ∧ wr.cell? ⟨w.heap.size, 1, none⟩ = some (.int .i64 q)) (fun _ _ i _ => n - j - (intOf i).toNat)
        case atStart => exact ⟨0, rfl, by omega, by rw [Nat.add_zero, HA0.out], by rw [Nat.add_zero, HA1.out, ← HA2.out]; rfl, BW.out, by go_simp, by go_simp⟩
        case round =>
          obtain ⟨k, rfl, hk, rfl, rfl, hbr, t0, t1⟩ := hrel
          have BR := Lib.hid hbr
          have HBR := Lib.hid (HB.out.below BR.out)
          have hzr := World.block_lt_of_cell? _ _ t0
          dsimp only at hzr
          have hy1 := ltC_le (p, q) (bs.take (j + k)).flatten
          have hy2 := eqC_le (p, q) (bs.take (j + k)).flatten
          have hy3 := HTL.out (j + k)
          obtain ⟨X, hX⟩ : ∃ A, (ltC (p, q) (bs.take (j + k)).flatten) = A := ⟨_, rfl⟩
          obtain ⟨Y, hY⟩ : ∃ A, (eqC (p, q) (bs.take (j + k)).flatten) = A := ⟨_, rfl⟩
          rw [hX] at hy1 ⊢
          rw [hY] at hy2 ⊢
          have HXX := Lib.hid hX
          have HYY := Lib.hid hY
          have hX4 : X ≤ 4096 := by omega
          have hY4 : Y ≤ 4096 := by omega
          clear hbr hX hY hy1 hy2 hy3
          by_cases hkn : k < n - j
          · obtain ⟨l, hl⟩ := getElem?_ex (l := bs) (k := j + k) (by rw [HN.out]; omega)
            have hmm := List.mem_of_getElem? hl
            have hl32 := HP.out.few l hmm
            obtain ⟨g', c2, b, cc, e, _, hgi, _, hri, hlc, hcm⟩ := HBR.out.at hl (HP.out.some l hmm)
            rw [HN.out] at e
            injection e with e1 e2 e3
            injection e1 with e1
            injection e1 with e1
            subst e1 e3
            have HPR := Lib.hid (own_pairs hri rfl (by omega))
            have HSS := Lib.hid (show (bs.take (j + k + 1)).flatten = (bs.take (j + k)).flatten ++ l from flat_take_succ hl)
            obtain ⟨hso, hal⟩ := HP.out.row hmm
            have HSO := Lib.hid hso
            have HAL := Lib.hid hal
            have HBH := Lib.hid (fun m (hm : m < l.length) h => ranks_behind HP.out HSC.out hl (m := m) hm h)
            have hbl : b < wr.heap.size := own_lt hri rfl
            obtain ⟨n2, hn2⟩ : ∃ n2, l.length = n2 := ⟨_, rfl⟩
            have HN2 := Lib.hid hn2
            rw [hn2] at hgi hlc hl32 HPR HBH
            have HPL := Lib.hid (fun W (hW : PairsR W (.slice (some ⟨b, 0, none⟩) n2 cc) l) => place_any _ l p q W hW HAL.out HSC.out HSO.out (by rw [HN2.out]; omega))
            have HRA := Lib.hid (fun i W (hW : PairsR W (.slice (some ⟨b, 0, none⟩) n2 cc) l) hi hA hB0 hB1 => rankAt_any wr.heap.size w.heap.size (some ⟨b, 0, none⟩) n2 cc l p q i W hW HN2.out HAL.out HSC.out hi hA hB0 hB1)
            have HMO := Lib.hid (gtB_mono HAL.out HSC.out HSO.out)
            rw [HN2.out] at HMO HPL
            clear hn2 hl hmm hri hso hal
            have i1 : (0 : Int) ≤ (k : Int) := by omega
            have i2 : (k : Int) < ((n - j : Nat) : Int) := by omega
            have hgl : g < wr.heap.size := HBR.out.foot (List.mem_cons.2 (.inr (mem_blks0 rfl)))
            go_wp2_with fail
            (with_reducible refine (HPL.out _ (HPR.out.below (by (repeat (first | with_reducible exact Below.refl _ _ | with_reducible refine Bs ?_ | with_reducible refine Ba ?_ | with_reducible refine Bd ?_ | with_reducible refine Bn ?_))))).mono ?_); rintro e w3 ⟨k1, rfl, hk1, hk2, hk3, b3⟩; have s3 : wr.heap.size + 1 ≤ w3.heap.size := sz b3; have B3 := Lib.hid (Bc (B := w.heap.size) (a := w) (by (repeat (first | with_reducible exact Below.refl _ _ | with_reducible refine Bs ?_ | with_reducible refine Ba ?_ | with_reducible refine Bd ?_ | with_reducible refine Bn ?_ | with_reducible refine Bt BR.out ?_))) b3); obtain ⟨c3_0, c3_1⟩ := k2 (w.heap.size) (.int .i64 p) (.int .i64 q) b3 (by and_intros <;> go_simp); have c3_2 : w3.cell? ⟨wr.heap.size, 0, none⟩ = some (.slice (some ⟨b, 0, none⟩) n2 cc) := kc b3 (by go_simp) (by first | omega | (simp; done) | (simp; omega)); obtain ⟨l3_0, n3_0, m3_0⟩ := lnm (show w.heap.size < w3.heap.size by omega); obtain ⟨l3_1, n3_1, m3_1⟩ := lnm (show wr.heap.size < w3.heap.size by omega); have HPR := Lib.hid ((HPR.out.below (by (repeat (first | with_reducible exact Below.refl _ _ | with_reducible refine Bs ?_ | with_reducible refine Ba ?_ | with_reducible refine Bd ?_ | with_reducible refine Bn ?_)))).below b3); clear b3
            have HK2 := Lib.hid hk2
            have HK3 := Lib.hid hk3
            clear hk2 hk3
            go_wp2_with fail
            refine (halves_any n2 83 #[.pointer (some ⟨wr.heap.size, 0, none⟩), .pointer (some ⟨w.heap.size, 0, none⟩)] (gtB l (p, q)) _ (fun _ _ => rfl) (by omega) ?_ HMO.out).mono ?_
            · intro i W hi hW
              exact HRA.out i W (HPR.out.below hW) hi (kc hW (by go_simp) (by omega)) (kc hW (by go_simp) (by omega)) (kc hW (by go_simp) (by omega))
            · rintro e w4 ⟨m, rfl, hm, hm1, hm2, b4⟩
              obtain ⟨hkm, hr1, hr2⟩ := row_ranks HAL.out HSC.out (by rw [HN2.out]; exact hk1) (by rw [HN2.out]; exact hm) HK2.out (by rw [HN2.out]; exact HK3.out) hm1 (by rw [HN2.out]; exact hm2)
              have HR1 := Lib.hid hr1
              have HR2 := Lib.hid hr2
              have HM2 := Lib.hid hm2
              have B4 := Lib.hid (show Below w.heap.size w w4 from Bc (B := w.heap.size) (a := w) B3.out b4 (by omega))
              have t0 := kc b4 c3_0 (by omega)
              have t1 := kc b4 c3_1 (by omega)
              have t2 := kc b4 c3_2 (by omega)
              clear hr1 hr2 hm1 hm2 b4
              have j1 : (k1 : Int) ≤ (m : Int) := by omega
              by_cases hmn : m < n2
              · have j2 : (m : Int) < (n2 : Int) := by omega
                have HZ := Lib.hid (HBH.out m hmn (HM2.out m (Nat.le_refl _) hmn))
                have hfin1 : ltC (p, q) bs.flatten = X + k1 := by
                  rw [flat_take_drop bs (j + k + 1), ltC_append, HSS.out, ltC_append, HXX.out, HR1.out, HZ.out.1]
                  rfl
                have hfin2 : eqC (p, q) bs.flatten = Y + (m - k1) := by
                  rw [flat_take_drop bs (j + k + 1), eqC_append, HSS.out, eqC_append, HYY.out, HR2.out, HZ.out.2]
                  rfl
                have HF1 := Lib.hid hfin1
                have HF2 := Lib.hid hfin2
                clear hfin1 hfin2
                go_wp2_with fail
                exact bodyPost_ret (v := .tuple #[.int .i64 ((X : Int) + k1), .int .i64 ((Y : Int) + ((m : Int) - k1)), .int .i64 0]) (by simp [results, Try.results20, go_sem]) rfl ⟨by rw [HF1.out, HF2.out]; exact ret3 (by omega) (by omega) rfl, B4.out⟩
              · have j2 : ¬ (m : Int) < (n2 : Int) := by omega
                go_wp2_with fail
                go_roundw
                case rel =>
                  refine ⟨k + 1, by go_num, by omega, ?_, ?_, B4.out, t0, t1⟩
                  · rw [← Nat.add_assoc, HSS.out, ltC_append, HXX.out, HR1.out]
                    go_num
                  · rw [← Nat.add_assoc, HSS.out, eqC_append, HYY.out, HR2.out]
                    congr 1
                    omega
                case measure => simp [intOf] <;> omega
          · have hke : k = n - j := by omega
            have hfin1 : ltC (p, q) bs.flatten = X := by
              rw [← HXX.out, List.take_of_length_le (by rw [HN.out]; omega)]
            have hfin2 : eqC (p, q) bs.flatten = Y := by
              rw [← HYY.out, List.take_of_length_le (by rw [HN.out]; omega)]
            have HF1 := Lib.hid hfin1
            have HF2 := Lib.hid hfin2
            have i2 : ¬ (k : Int) < ((n - j : Nat) : Int) := by omega
            clear hfin1 hfin2
            go_wp2_with fail
            exact bodyPost_ret (v := .tuple #[.int .i64 X, .int .i64 Y, .int .i64 0]) (by simp [results, Try.results20, go_sem]) rfl ⟨by rw [HF1.out, HF2.out], BR.out⟩
      · have : j = n := by omega
        subst this
        have hfin1 : ltC (p, q) bs.flatten = (ltC (p, q) (bs.take j).flatten) := by
          rw [List.take_of_length_le (by rw [HN.out]; omega)]
        have hfin2 : eqC (p, q) bs.flatten = 0 := by
          have := HA2.out
          rw [List.take_of_length_le (by rw [HN.out]; omega)] at this
          exact this.symm
        obtain ⟨X, hX⟩ : ∃ A, (ltC (p, q) (bs.take j).flatten) = A := ⟨_, rfl⟩
        rw [hX] at ht hfin1 ⊢
        have HF1 := Lib.hid hfin1
        have HF2 := Lib.hid hfin2
        clear hX hfin1 hfin2
        by_cases hjc : j = c
        all_goals
          go_wp2_with fail
          go_loopw [7, 8, 49] (fun less same i wr => i = .int .i64 0 ∧ less = .int .i64 X ∧ same = .int .i64 0 ∧ w2 = wr) (fun _ _ i _ => 0)
          case atStart => exact ⟨rfl, rfl, rfl, rfl⟩
          case round =>
            obtain ⟨rfl, rfl, rfl, rfl⟩ := hrel
            go_wp2_with fail
            exact bodyPost_ret (v := .tuple #[.int .i64 X, .int .i64 0, .int .i64 0]) (by simp [results, Try.results20, go_sem]) rfl ⟨by rw [HF1.out, HF2.out]; rfl, BW.out⟩
end Go.Proofs.Ytjmjnkilgoelbaa
