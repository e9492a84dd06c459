/-
  RefPathF: Walks of copseref11.Parents, Depths.
-/
import Derived.Test.YtdbonlpkmncggaaJ1a
namespace Go.Proofs.Ytdbonlpkmncggaa
open Go.RowKit

def isPar (t : TreeP) (k i : Nat) : Bool := match t.nodes[k]? with
  | some n => decide (0 < n.left) && (decide (n.left = (i : Int)) || decide (n.right = (i : Int)))
  | none => false
/-- The last node, of the first k, that names one. -/
def lastPar (t : TreeP) (i : Nat) : Nat → Int
  | 0 => -1
  | k + 1 => if isPar t k i then (k : Int) else lastPar t i k
def parT (t : TreeP) (i : Nat) : Int := lastPar t i t.nodes.length

theorem lastPar_is {t : TreeP} {i : Nat} : ∀ k, (lastPar t i k = -1 ∧ ∀ j, j < k → isPar t j i = false) ∨ ∃ j : Nat, lastPar t i k = (j : Int) ∧ j < k ∧ isPar t j i = true
  | 0 => .inl ⟨rfl, fun j h => by omega⟩
  | k + 1 => by
    rw [lastPar]
    cases h : isPar t k i with
    | true => exact .inr ⟨k, by simp, by omega, h⟩
    | false =>
      simp only [Bool.false_eq_true, if_false]
      rcases lastPar_is (t := t) (i := i) k with ⟨h1, h2⟩ | ⟨j, h1, h2, h3⟩
      · refine .inl ⟨h1, fun j hj => ?_⟩
        rcases Nat.lt_or_ge j k with h4 | h4
        · exact h2 j h4
        · obtain rfl : j = k := by omega
          exact h
      · exact .inr ⟨j, h1, by omega, h3⟩

/-- The one above a node of a tree. -/
theorem parT_is {t : TreeP} (h : IsTree t) {i : Nat} (hi : i < t.nodes.length) : (parT t i = -1 ∧ depOf t i = 0) ∨ ∃ j : Nat, parT t i = (j : Int) ∧ j < i ∧ depOf t i = depOf t j + 1 := by
  have hpar : ∀ j, isPar t j i = true → j < i ∧ depOf t i = depOf t j + 1 := by
    intro j hj
    unfold isPar at hj
    cases hn : t.nodes[j]? with
    | none => rw [hn] at hj; cases hj
    | some n =>
      rw [hn] at hj
      simp only [Bool.and_eq_true, Bool.or_eq_true, decide_eq_true_eq] at hj
      have hl : leafB n = false := by
        rw [(leafAt_is h hn).2]
        simp; omega
      obtain ⟨m, g1, g2, g3, g4, g5, g6⟩ := dep_kids h hn hl
      rcases hj.2 with e | e
      · have : i = j + 1 := by omega
        subst this
        exact ⟨by omega, g5⟩
      · have : i = m := by omega
        subst this
        exact ⟨by omega, g6⟩
  rcases lastPar_is (t := t) (i := i) t.nodes.length with ⟨h1, h2⟩ | ⟨j, h1, h2, h3⟩
  · refine .inl ⟨h1, ?_⟩
    rcases Nat.eq_zero_or_pos i with h0 | h0
    · subst h0
      exact depT_self t 6 0
    · exfalso
      obtain ⟨_, _, g, s, q, _⟩ := h
      obtain ⟨k, n, _, k2, k3, k4, k5⟩ := q.parent i h0 hi
      have hk := h2 k (List.getElem?_eq_some_iff.1 k3).1
      unfold isPar at hk
      rw [k3] at hk
      obtain ⟨m, _, _, c1, _⟩ := q.kids k n (by omega) (List.getElem?_eq_some_iff.1 k3).1 k3 k4
      have : 0 < n.left := by omega
      simp only [Bool.and_eq_false_iff, Bool.or_eq_false_iff, decide_eq_false_iff_not] at hk
      omega
  · obtain ⟨a, b⟩ := hpar j h3
    exact .inr ⟨j, h1, a, b⟩

def P64 (z : Int) : Value := .int .i64 z

set_option maxRecDepth 100000 in
set_option maxHeartbeats 2000000 in
theorem rparents_any (v : Value) (t : TreeP) (w : World) (h : TreeR w v t) :
    Calls Try.prog 110 #[v] w fun e w' => ∃ vo, e = .returned vo ∧ Ints .i64 w' vo (if treeB t = true then (List.range t.nodes.length).map (parT t) else []) ∧ Below w.heap.size w w' := by
  have HTR := Lib.hid h
  have HIS := Lib.hid (fun W (hW : TreeR W v t) => ristree_any v t W hW)
  obtain ⟨nv, rfl, ad, cc, rfl, _, _, q3, _⟩ := h
  obtain ⟨TB, hTB⟩ : ∃ TB, treeB t = TB := ⟨_, rfl⟩
  rw [hTB] at HIS ⊢
  cases TB with
  | false =>
    simp only [Bool.false_eq_true, if_false]
    clear hTB
    generalize t.nodes.length = n at *
    generalize t.dim = D at *
    go_enter Try.func110, Try.ntmps110
    go_wp2_with fail
    (with_reducible refine (HIS.out _ (HTR.out.below (by (repeat (first | with_reducible exact Below.refl _ _ | with_reducible refine Bs ?_ | with_reducible refine Ba ?_ | with_reducible refine Bd ?_ | with_reducible refine Bn ?_))))).mono ?_); rintro e w1 ⟨rfl, b1⟩; have s1 : w.heap.size + 1 ≤ w1.heap.size := sz b1; have B1 := Lib.hid (Bc (B := w.heap.size) (a := w) (by (repeat (first | with_reducible exact Below.refl _ _ | with_reducible refine Bs ?_ | with_reducible refine Ba ?_ | with_reducible refine Bd ?_ | with_reducible refine Bn ?_))) b1); have c1_0 : w1.cell? ⟨w.heap.size, 0, none⟩ = some (.int .i64 D) := kc b1 (by go_simp) (by first | omega | (simp; done) | (simp; omega)); obtain ⟨l1_0, n1_0, m1_0⟩ := lnm (show w.heap.size < w1.heap.size by omega); clear b1
    go_wp2_with fail
    go_ret
    exact ⟨_, rfl, ints_nil _ _ _ _ (by omega), by (repeat (first | with_reducible exact Below.refl _ _ | with_reducible refine Bs ?_ | with_reducible refine Ba ?_ | with_reducible refine Bd ?_ | with_reducible refine Bn ?_ | with_reducible refine Bt B1.out ?_))⟩
  | true =>
    simp only [if_true]
    have ht := treeB_true.1 hTB
    have hlen := ht.len
    obtain ⟨b, o, rfl⟩ := HTR.out.addr (i := 0) (by omega)
    clear hTB ht
    have HPT := Lib.hid (show ∀ i, parT t i = lastPar t i t.nodes.length from fun i => rfl)
    obtain ⟨n, hn⟩ : ∃ n, t.nodes.length = n := ⟨_, rfl⟩
    rw [hn] at HTR HIS hlen q3 ⊢
    have HL := Lib.hid hn
    obtain ⟨D, hD⟩ : ∃ D, t.dim = D := ⟨_, rfl⟩
    rw [hD] at HTR HIS ⊢
    clear hn hD
    have hnI : (n : Int) ≤ 127 := by omega
    go_enter Try.func110, Try.ntmps110
    go_wp2_with fail
    (with_reducible refine (HIS.out _ (HTR.out.below (by (repeat (first | with_reducible exact Below.refl _ _ | with_reducible refine Bs ?_ | with_reducible refine Ba ?_ | with_reducible refine Bd ?_ | with_reducible refine Bn ?_))))).mono ?_); rintro e w1 ⟨rfl, b1⟩; have s1 : w.heap.size + 1 ≤ w1.heap.size := sz b1; have B1 := Lib.hid (Bc (B := w.heap.size) (a := w) (by (repeat (first | with_reducible exact Below.refl _ _ | with_reducible refine Bs ?_ | with_reducible refine Ba ?_ | with_reducible refine Bd ?_ | with_reducible refine Bn ?_))) b1); obtain ⟨c1_0, c1_1⟩ := k2 (w.heap.size) (.int .i64 D) (.slice (some ⟨b, o, none⟩) n cc) b1 (by and_intros <;> go_simp); obtain ⟨l1_0, n1_0, m1_0⟩ := lnm (show w.heap.size < w1.heap.size by omega); clear b1
    go_wp2_with fail
    go_loopw [3, 4, 5, 6] (fun out i _ _ wr => ∃ k : Nat, i = .int .i64 k ∧ k ≤ n ∧ wr.ownsRow (w.heap.size + 1) 3 1 out k (((List.range k).map (parT t)).map P64) ∧ Below w.heap.size w wr ∧ w.heap.size + 1 ≤ wr.heap.size ∧ wr.cell? ⟨w.heap.size, 0, none⟩ = some (.int .i64 D) ∧ wr.cell? ⟨w.heap.size, 1, none⟩ = some (.slice (some ⟨b, o, none⟩) n cc)) (fun _ i _ _ _ => n - (intOf i).toNat)
    case atStart => exact ⟨0, rfl, by omega, World.ownsRow_nil _ _ _ _, B1.out, by omega, c1_0, c1_1⟩
    case round =>
      obtain ⟨k, rfl, hk, hown, hbr, hsz, y0, y1⟩ := hrel
      have HOWN := Lib.hid hown
      have HBR := Lib.hid hbr
      by_cases hlt : k < n
      · have HLS := Lib.hid (show ((List.range (k + 1)).map (parT t)).map P64 = ((List.range k).map (parT t)).map P64 ++ [P64 (parT t k)] by rw [List.range_succ, List.map_append, List.map_append]; rfl)
        have i1 : (0 : Int) ≤ (k : Int) := by omega
        have i2 : (k : Int) < (n : Int) := by omega
        have HN := Lib.hid (show ∀ j nd, t.nodes[j]? = some nd → wr.cell? ⟨b, o + j * 5 + 2, none⟩ = some (.int .i64 nd.left) ∧ wr.cell? ⟨b, o + j * 5 + 3, none⟩ = some (.int .i64 nd.right) from fun j nd hj => by
          obtain ⟨_, hat⟩ := (HTR.out.below hbr).node hj
          obtain ⟨_, _, _, _, _, e2, e3, _⟩ := hat.val
          exact ⟨e2, e3⟩)
        clear hown hbr
        go_wp2_with fail
        go_loopw [5, 6] (fun of kk ws => ∃ q : Nat, kk = .int .i64 q ∧ q ≤ n ∧ of = .int .i64 (lastPar t k q) ∧ ws = wr) (fun _ kk _ => n - (intOf kk).toNat)
        case atStart => exact ⟨0, rfl, by omega, rfl, rfl⟩
        case round =>
          obtain ⟨q, rfl, hq, rfl, rfl⟩ := hrel
          by_cases hlt2 : q < n
          · obtain ⟨nd, hnd⟩ := getElem?_ex (l := t.nodes) (k := q) (by rw [HL.out]; exact hlt2)
            obtain ⟨e2, e3⟩ := HN.out q nd hnd
            have HSTEP := Lib.hid (show lastPar t k (q + 1) = if isPar t q k then (q : Int) else lastPar t k q from rfl)
            have hisp : isPar t q k = (decide (0 < nd.left) && (decide (nd.left = (k : Int)) || decide (nd.right = (k : Int)))) := by unfold isPar; rw [hnd]
            have HISP := Lib.hid hisp
            have j1 : (0 : Int) ≤ (q : Int) := by omega
            have j2 : (q : Int) < (n : Int) := by omega
            clear hnd hisp
            generalize lastPar t k q = LP at *
            generalize nd.left = xl at *
            generalize nd.right = xr at *
            by_cases a1 : 0 < xl
            · by_cases a2 : xl = (k : Int)
              · subst a2
                have HV := Lib.hid (show isPar t q k = true by rw [HISP.out]; simp; omega)
                have b2 : ((k : Int) == (k : Int)) = true := by simp
                go_wp2_with fail
                go_roundw
                case rel => exact ⟨q + 1, by go_num, by omega, by rw [HSTEP.out, HV.out]; rfl, trivial⟩
                case measure => simp [intOf] <;> omega
              · by_cases a3 : xr = (k : Int)
                · subst a3
                  have HV := Lib.hid (show isPar t q k = true by rw [HISP.out]; simp [a1])
                  have B2' := Lib.hid (show (xl == (k : Int)) = false by simp [a2])
                  clear a2
                  have b2 := B2'.out
                  have b3 : ((k : Int) == (k : Int)) = true := by simp
                  go_wp2_with fail
                  go_roundw
                  case rel => exact ⟨q + 1, by go_num, by omega, by rw [HSTEP.out, HV.out]; rfl, trivial⟩
                  case measure => simp [intOf] <;> omega
                · have HV := Lib.hid (show isPar t q k = false by rw [HISP.out]; simp [a2, a3])
                  have B2' := Lib.hid (show (xl == (k : Int)) = false by simp [a2])
                  have B3' := Lib.hid (show (xr == (k : Int)) = false by simp [a3])
                  clear a2 a3
                  have b2 := B2'.out
                  have b3 := B3'.out
                  go_wp2_with fail
                  go_roundw
                  case rel => exact ⟨q + 1, by go_num, by omega, by rw [HSTEP.out, HV.out]; rfl, trivial⟩
                  case measure => simp [intOf] <;> omega
            · have HV := Lib.hid (show isPar t q k = false by rw [HISP.out]; simp [a1])
              go_wp2_with fail
              go_roundw
              case rel => exact ⟨q + 1, by go_num, by omega, by rw [HSTEP.out, HV.out]; rfl, trivial⟩
              case measure => simp [intOf] <;> omega
          · obtain rfl : q = n := by omega
            have HP := Lib.hid (HPT.out k)
            rw [HL.out] at HP
            rw [← HP.out]
            generalize parT t k = PV at *
            go_wp2_with (at_builtin; go_must (refine app1 rfl _ _ 27 rfl Try.underlying27 eiInt (w.heap.size + 1) (by rfl) HOWN.out (by rfl) rfl (by simp [Value.oneCell']) (by omega) (by omega) ?_))
            intro v5 w5 hown5 hb5 _
            have u0 := (hb5.cell (p := ⟨w.heap.size, 0, none⟩) (by simp)).trans y0
            have u1 := (hb5.cell (p := ⟨w.heap.size, 1, none⟩) (by simp)).trans y1
            have s5 := hb5.size
            have OWN5 := Lib.hid hown5
            have B5 := Lib.hid (show Below w.heap.size w w5 from below_tr HBR.out (hb5.mono (by omega)))
            clear hown5 hb5
            go_wp2_with fail
            go_roundw
            case rel =>
              refine ⟨k + 1, by go_num, by omega, ?_, B5.out, by omega, u0, u1⟩
              rw [HLS.out, List.map_map]
              exact OWN5.out
            case measure => simp [intOf] <;> omega
      · obtain rfl : k = n := by omega
        have i5 := Ints.own (l := (List.range k).map (parT t)) (by exact hown) (by simp; omega)
        have I5 := Lib.hid i5.2
        have HVO := Lib.hid i5.1
        clear hown hbr i5
        go_wp2_with fail
        go_ret
        exact ⟨_, rfl, I5.out, HBR.out⟩

set_option maxRecDepth 100000 in
set_option maxHeartbeats 2000000 in
theorem rdepths_fresh (v : Value) (t : TreeP) (w : World) (h : TreeR w v t) :
    Calls Try.prog 90 #[v] w fun e w' => ∃ vo, e = .returned vo ∧ Ints .i64 w' vo (if treeB t = true then (List.range t.nodes.length).map (fun i => (depOf t i : Int)) else []) ∧ Fresh w.heap.size vo ∧ Below w.heap.size w w' := by
  have HTR := Lib.hid h
  have HPA := Lib.hid (fun W (hW : TreeR W v t) => rparents_any v t W hW)
  obtain ⟨nv, rfl, ad, cc, rfl, _, _, q3, _⟩ := h
  obtain ⟨TB, hTB⟩ : ∃ TB, treeB t = TB := ⟨_, rfl⟩
  rw [hTB] at HPA ⊢
  cases TB with
  | false =>
    simp only [Bool.false_eq_true, if_false] at HPA ⊢
    clear hTB
    generalize t.nodes.length = n at *
    generalize t.dim = D at *
    go_enter Try.func90, Try.ntmps90
    go_wp2_with fail
    (with_reducible refine (HPA.out _ (HTR.out.below (by (repeat (first | with_reducible exact Below.refl _ _ | with_reducible refine Bs ?_ | with_reducible refine Ba ?_ | with_reducible refine Bd ?_ | with_reducible refine Bn ?_))))).mono ?_); rintro e w1 ⟨vo, rfl, iv, b1⟩; have s1 : w.heap.size + 1 ≤ w1.heap.size := sz b1; have B1 := Lib.hid (Bc (B := w.heap.size) (a := w) (by (repeat (first | with_reducible exact Below.refl _ _ | with_reducible refine Bs ?_ | with_reducible refine Ba ?_ | with_reducible refine Bd ?_ | with_reducible refine Bn ?_))) b1); have c1_0 : w1.cell? ⟨w.heap.size, 0, none⟩ = some (.int .i64 D) := kc b1 (by go_simp) (by first | omega | (simp; done) | (simp; omega)); obtain ⟨l1_0, n1_0, m1_0⟩ := lnm (show w.heap.size < w1.heap.size by omega); clear b1
    obtain ⟨pa, pc, rfl, _⟩ := iv
    go_wp2_with fail
    go_loopw [4, 5, 6, 7] (fun o i _ _ wr => o = .slice none 0 0 ∧ i = .int .i64 0 ∧ wr = w1) (fun _ _ _ _ _ => 0)
    case atStart => exact ⟨rfl, rfl, rfl⟩
    case round =>
      obtain ⟨rfl, rfl, rfl⟩ := hrel
      go_wp2_with fail
      go_ret
      exact ⟨_, rfl, ints_nil _ _ _ _ (by omega), (fun a n c e _ => by cases e), by (repeat (first | with_reducible exact Below.refl _ _ | with_reducible refine Bs ?_ | with_reducible refine Ba ?_ | with_reducible refine Bd ?_ | with_reducible refine Bn ?_ | with_reducible refine Bt B1.out ?_))⟩
  | true =>
    simp only [if_true] at HPA ⊢
    have ht := treeB_true.1 hTB
    have hlen := ht.len
    have HPT := Lib.hid (show ∀ i, i < t.nodes.length → _ from fun i hi => parT_is ht (i := i) hi)
    have HD6 := Lib.hid (show ∀ i, i < t.nodes.length → depOf t i ≤ 6 from fun i hi => by
      obtain ⟨_, _, g, s, q, h1, h2⟩ := ht
      have := q.dep 6 (Nat.le_trans h2 (logI_le h1)) i (by omega) hi
      unfold depOf
      have := logI_le h1
      omega)
    clear hTB ht
    obtain ⟨n, hn⟩ : ∃ n, t.nodes.length = n := ⟨_, rfl⟩
    rw [hn] at HTR HPA hlen q3 HPT HD6 ⊢
    clear hn
    generalize t.dim = D at *
    have hnI : (n : Int) ≤ 127 := by omega
    go_enter Try.func90, Try.ntmps90
    go_wp2_with fail
    (with_reducible refine (HPA.out _ (HTR.out.below (by (repeat (first | with_reducible exact Below.refl _ _ | with_reducible refine Bs ?_ | with_reducible refine Ba ?_ | with_reducible refine Bd ?_ | with_reducible refine Bn ?_))))).mono ?_); rintro e w1 ⟨vo, rfl, iv, b1⟩; have s1 : w.heap.size + 1 ≤ w1.heap.size := sz b1; have B1 := Lib.hid (Bc (B := w.heap.size) (a := w) (by (repeat (first | with_reducible exact Below.refl _ _ | with_reducible refine Bs ?_ | with_reducible refine Ba ?_ | with_reducible refine Bd ?_ | with_reducible refine Bn ?_))) b1); have c1_0 : w1.cell? ⟨w.heap.size, 0, none⟩ = some (.int .i64 D) := kc b1 (by go_simp) (by first | omega | (simp; done) | (simp; omega)); obtain ⟨l1_0, n1_0, m1_0⟩ := lnm (show w.heap.size < w1.heap.size by omega); clear b1
    obtain ⟨pa, pc, rfl, _, _, _, hpc⟩ := iv
    rw [List.length_map, List.length_range]
    have HPC := Lib.hid (show ∀ i, i < n → ∃ b o, pa = some ⟨b, o, none⟩ ∧ b < w1.heap.size ∧ w1.cell? ⟨b, o + i, none⟩ = some (.int .i64 (parT t i)) from fun i hi => hpc i (parT t i) (by rw [List.getElem?_map, List.getElem?_range hi]; rfl))
    clear hpc
    go_wp2_with fail
    go_loopw [4, 5, 6, 7] (fun out i _ _ wr => ∃ k : Nat, i = .int .i64 k ∧ k ≤ n ∧ wr.ownsRow w1.heap.size 3 1 out k (((List.range k).map (fun i => (depOf t i : Int))).map P64) ∧ Below w1.heap.size w1 wr) (fun _ i _ _ _ => n - (intOf i).toNat)
    case atStart => exact ⟨0, rfl, by omega, World.ownsRow_nil _ _ _ _, Below.refl _ _⟩
    case round =>
      obtain ⟨k, rfl, hk, hown, hbr⟩ := hrel
      have HOWN := Lib.hid hown
      have HBR := Lib.hid hbr
      have hsz := hbr.size
      by_cases hlt : k < n
      · have HLS := Lib.hid (show ((List.range (k + 1)).map (fun i => (depOf t i : Int))).map P64 = ((List.range k).map (fun i => (depOf t i : Int))).map P64 ++ [P64 (depOf t k : Int)] by rw [List.range_succ, List.map_append, List.map_append]; rfl)
        obtain ⟨b, o, rfl, hb, hc⟩ := HPC.out k hlt
        have HN := Lib.hid (show ∀ j, j < n → wr.cell? ⟨b, o + j, none⟩ = some (.int .i64 (parT t j)) from fun j hj => by
          obtain ⟨b', o', e, hb', hc'⟩ := HPC.out j hj
          injection e with e
          injection e with e1 e2 e3
          subst e1 e2
          exact (hbr.cell (p := ⟨b, o + j, none⟩) hb').trans hc')
        have e0 := HN.out k hlt
        have hk6 := HD6.out k hlt
        have i1 : (0 : Int) ≤ (k : Int) := by omega
        have i2 : (k : Int) < (n : Int) := by omega
        have HPK := Lib.hid (show (parT t k = -1 ∧ depOf t k = 0) ∨ ∃ j : Nat, parT t k = (j : Int) ∧ j < n ∧ depOf t k = depOf t j + 1 from by
          rcases HPT.out k hlt with h | ⟨j, h1, h2, h3⟩
          · exact .inl h
          · exact .inr ⟨j, h1, by omega, h3⟩)
        clear hown hbr hc
        go_wp2_with fail
        go_loopw [6, 7] (fun nn kk ws => ∃ (c : Nat) (z : Int), nn = .int .i64 c ∧ kk = .int .i64 z ∧ c ≤ depOf t k ∧ ((z = -1 ∧ c = depOf t k) ∨ ∃ j : Nat, z = (j : Int) ∧ j < n ∧ c + 1 + depOf t j = depOf t k) ∧ ws = wr) (fun nn _ _ => 10 - (intOf nn).toNat)
        case atStart =>
          refine ⟨0, parT t k, rfl, rfl, by omega, ?_, rfl⟩
          rcases HPK.out with ⟨h1, h2⟩ | ⟨j, h1, h2, h3⟩
          · exact .inl ⟨h1, by omega⟩
          · exact .inr ⟨j, h1, h2, by omega⟩
        case round =>
          obtain ⟨c, z, rfl, rfl, hc, hz, rfl⟩ := hrel
          rcases hz with ⟨rfl, hz⟩ | ⟨j, rfl, hj, hz⟩
          · have HZ := Lib.hid hz
            clear hz
            go_wp2_with (at_builtin; go_must (refine app1 rfl _ _ 27 rfl Try.underlying27 eiInt w1.heap.size (by rfl) HOWN.out (by rfl) rfl (by simp [Value.oneCell']) (by omega) (by omega) ?_))
            intro v5 w5 hown5 hb5 _
            have OWN5 := Lib.hid hown5
            have B5 := Lib.hid (show Below w1.heap.size w1 w5 from below_tr HBR.out (hb5.mono (by omega)))
            clear hown5 hb5
            go_wp2_with fail
            go_roundw
            case rel =>
              refine ⟨k + 1, by go_num, by omega, ?_, B5.out⟩
              rw [HLS.out, ← HZ.out, List.map_map]
              exact OWN5.out
            case measure => simp [intOf] <;> omega
          · have j0 : (0 : Int) ≤ (j : Int) := by omega
            have j1 : (j : Int) < (n : Int) := by omega
            have e1 := HN.out j hj
            have HZ := Lib.hid hz
            have HPJ := Lib.hid (HPT.out j hj)
            have hc6 : (c : Int) ≤ 6 := by omega
            have hc7 : c + 1 ≤ depOf t k := by omega
            clear hz
            go_wp2_with fail
            go_roundw
            case rel =>
              refine ⟨c + 1, parT t j, by go_num, rfl, hc7, ?_, trivial⟩
              have hz := HZ.out
              rcases HPJ.out with ⟨h1, h2⟩ | ⟨q, h1, h2, h3⟩
              · exact .inl ⟨h1, by omega⟩
              · exact .inr ⟨q, h1, by omega, by omega⟩
            case measure => simp [intOf] <;> omega
      · obtain rfl : k = n := by omega
        have i5 := Ints.own (l := (List.range k).map (fun i => (depOf t i : Int))) (by exact hown) (by simp; omega)
        have I5 := Lib.hid i5.2
        have F5 := Lib.hid ((Fresh.own hown).mono B1.out.size)
        clear hown hbr i5
        go_wp2_with fail
        go_ret
        exact ⟨_, rfl, I5.out, F5.out.mono (by simp), by (repeat (first | with_reducible exact Below.refl _ _ | with_reducible refine Bs ?_ | with_reducible refine Ba ?_ | with_reducible refine Bd ?_ | with_reducible refine Bn ?_ | with_reducible refine Bt HBR.out ?_ | with_reducible refine Bt B1.out ?_))⟩

theorem rdepths_any (v : Value) (t : TreeP) (w : World) (h : TreeR w v t) :
    Calls Try.prog 90 #[v] w fun e w' => ∃ vo, e = .returned vo ∧ Ints .i64 w' vo (if treeB t = true then (List.range t.nodes.length).map (fun i => (depOf t i : Int)) else []) ∧ Below w.heap.size w w' :=
  (rdepths_fresh v t w h).mono fun _ _ ⟨vo, h1, h2, _, h3⟩ => ⟨vo, h1, h2, h3⟩
end Go.Proofs.Ytdbonlpkmncggaa
