/-
  Walks of layer 16: the room without a step, the steps of a vector.
-/
import Derived.Test.YtopodhcgfmpphaaExplC
import Derived.Test.YtopodhcgfmpphaaApp1
namespace Go.Proofs.Ytopodhcgfmpphaa
open Go.RowKit

set_option maxHeartbeats 400000 in
theorem all0_any (w : World) : Calls Try.prog 73 #[] w fun e w' => e = .returned (.agg #[.int .i64 (-2147483648), .int .i64 2147483647]) ∧ Below w.heap.size w w' := by
  go_enter Try.func73, Try.ntmps73
  go_wp2_with fail
  refine bodyPost_ret (v := .agg #[.int .i64 (-2147483648), .int .i64 2147483647]) (by simp [results, Try.results73, go_sem]) rfl ⟨rfl, by (repeat (first | with_reducible exact Below.refl _ _ | ((with_reducible refine Below.setCell ?_ ?_ _); rotate_left; (focus (first | omega | (simp; done) | (simp; omega)))) | ((with_reducible refine Below.alloc ?_ ?_ _); rotate_left; (focus (first | omega | (simp; done) | (simp; omega)))) | (with_reducible refine Below.drew ?_) | (with_reducible refine below_drewN ?_ _)))⟩

/-- w' is w but for one block, and what is new. -/
def Only (b : Nat) (w w' : World) : Prop := Below b w w' ∧ ∀ q, q ≠ b → q < w.heap.size → w'.heap[q]? = w.heap[q]?

theorem Only.refl (b : Nat) (w : World) : Only b w w := ⟨Below.refl _ _, fun _ _ _ => rfl⟩
theorem Only.trans {b : Nat} {w1 w2 w3 : World} (h : Only b w1 w2) (k : Only b w2 w3) : Only b w1 w3 :=
  ⟨below_tr h.1 k.1, fun q hq hlt => (k.2 q hq (Nat.lt_of_lt_of_le hlt h.1.size)).trans (h.2 q hq hlt)⟩
theorem Only.of {b : Nat} {w w' : World} (h : Below w.heap.size w w') (hb : b < w.heap.size) : Only b w w' := ⟨h.mono (by omega), fun q _ hlt => h.block q hlt⟩
theorem Only.cell {b : Nat} {w w' : World} (h : Only b w w') {q o : Nat} (hq : q ≠ b) (hlt : q < w.heap.size) : w'.cell? ⟨q, o, none⟩ = w.cell? ⟨q, o, none⟩ := cell_of_block (h.2 q hq hlt)
theorem Only.frozen {b : Nat} {w w' : World} (h : Only b w w') {q o : Nat} (hq : q ≠ b) (hlt : q < w.heap.size) : w'.frozen? ⟨q, o, none⟩ = w.frozen? ⟨q, o, none⟩ := by
  have := h.2 q hq hlt
  simp only [World.frozen?, this]

/-- v is the steps of a vector, in rows from B on. -/
def StepsR (w0 : World) (B : Nat) (w : World) (v : Value) (x : List Int) (l : List NodeP) : Prop :=
  ∃ a c, v = .slice a l.length c ∧ l.length ≤ c ∧ c ≤ 9223372036854775807 ∧
    ∀ (i : Nat) (n : NodeP), l[i]? = some n → ∃ b o cv, a = some ⟨b, o, none⟩ ∧ (B ≤ b ∧ b < w.heap.size) ∧ w.cell? ⟨b, o + i * 3, none⟩ = some cv ∧ w.cell? ⟨b, o + i * 3 + 1, none⟩ = some (.int .i64 n.at_) ∧
      w.cell? ⟨b, o + i * 3 + 2, none⟩ = some (.bool (leftB n x)) ∧ Ints .i64 w0 cv n.coef

theorem StepsR.keep {w0 w w' : World} {B : Nat} {v : Value} {x : List Int} {l : List NodeP} (h : StepsR w0 B w v x l) (hk : ∀ q, B ≤ q → q < w.heap.size → w'.heap[q]? = w.heap[q]?) (hs : w.heap.size ≤ w'.heap.size) : StepsR w0 B w' v x l := by
  obtain ⟨a, c, e, h1, h2, h⟩ := h
  refine ⟨a, c, e, h1, h2, fun i n hi => ?_⟩
  obtain ⟨b, o, cv, e, ⟨hB, hb⟩, c0, c1, c2, hn⟩ := h i n hi
  exact ⟨b, o, cv, e, ⟨hB, Nat.lt_of_lt_of_le hb hs⟩, (cell_of_block (hk b hB hb)).trans c0, (cell_of_block (hk b hB hb)).trans c1, (cell_of_block (hk b hB hb)).trans c2, hn⟩

theorem StepsR.below {w0 w w' : World} {B : Nat} {v : Value} {x : List Int} {l : List NodeP} (h : StepsR w0 B w v x l) (b : Below w.heap.size w w') : StepsR w0 B w' v x l := h.keep (fun q _ hq => b.block q hq) b.size

def stepF (x : List Int) (p : NodeP × Value) : List Value := [p.2, .int .i64 p.1.at_, .bool (leftB p.1 x)]

theorem stepF_at (x : List Int) : ∀ (ps : List (NodeP × Value)) (i : Nat) (p : NodeP × Value), ps[i]? = some p →
    (ps.flatMap (stepF x))[i * 3]? = some p.2 ∧ (ps.flatMap (stepF x))[i * 3 + 1]? = some (.int .i64 p.1.at_) ∧ (ps.flatMap (stepF x))[i * 3 + 2]? = some (.bool (leftB p.1 x))
  | [], i, p, h => by simp at h
  | q :: ps, 0, p, h => by
    obtain rfl : q = p := by simpa using h
    exact ⟨rfl, rfl, rfl⟩
  | q :: ps, i + 1, p, h => by
    have := stepF_at x ps i p (by simpa using h)
    rw [List.flatMap_cons]
    have e1 : (i + 1) * 3 = i * 3 + 1 + 1 + 1 := by omega
    rw [e1]
    exact this

theorem own_steps {w0 w : World} {B base e n : Nat} {v : Value} {x : List Int} {ps : List (NodeP × Value)} (h : w.ownsRow base e 3 v n (ps.flatMap (stepF x))) (hn : n = ps.length) (hB : B ≤ base)
    (hp : ∀ p ∈ ps, Ints .i64 w0 p.2 p.1.coef) : StepsR w0 B w v x (ps.map (·.1)) := by
  subst hn
  rcases h.2 with ⟨rfl, h0⟩ | ⟨g, cap, cur, rfl, hb, hg, h1, h2, h3, h4⟩
  · have : ps = [] := List.eq_nil_of_length_eq_zero h0
    subst this
    exact ⟨none, 0, rfl, by simp, by omega, fun i x hi => by simp at hi⟩
  · refine ⟨some ⟨g, 0, none⟩, cap, by rw [List.length_map], by rw [List.length_map]; exact h1, by simpa [maxLen] using h2, fun i t hi => ?_⟩
    rw [List.getElem?_map] at hi
    cases hpi : ps[i]? with
    | none => rw [hpi] at hi; cases hi
    | some p =>
      rw [hpi] at hi
      obtain rfl : p.1 = t := by simpa using hi
      have hlt : i < ps.length := (List.getElem?_eq_some_iff.1 hpi).1
      obtain ⟨r0, r1, r2⟩ := stepF_at x ps i p hpi
      have c0 := (h.cellAt (i * 3) (by omega)).trans r0
      have c1 := (h.cellAt (i * 3 + 1) (by omega)).trans r1
      have c2 := (h.cellAt (i * 3 + 2) (by omega)).trans r2
      exact ⟨g, 0, p.2, rfl, ⟨Nat.le_trans hB hb, (Array.getElem?_eq_some_iff.1 hg).1⟩, by rw [Nat.zero_add]; exact c0, by rw [Nat.zero_add]; exact c1, by rw [Nat.zero_add]; exact c2, hp p (List.mem_of_getElem? hpi)⟩

theorem eiStep : EI Try.prog 101 (.agg #[.slice none 0 0, .int .i64 0, .bool false]) 3 40 := .of (by kernel_rfl) rfl (by decide) (by decide)

set_option maxRecDepth 100000 in
set_option maxHeartbeats 4000000 in
theorem eway_any (v vx : Value) (t : TreeP) (x : List Int) (w0 w : World) (h0 : TreeR w0 v t) (hw0 : Below w0.heap.size w0 w) (hx : Ints .i64 w vx x) (hB : treeB t = true) (hV : vecB x t.dim = true) :
    Calls Try.prog 66 #[v, vx] w fun e w' => ∃ vo, e = .returned vo ∧ StepsR w0 w.heap.size w' vo x (stepL t x) ∧ Below w.heap.size w w' := by
  have h := h0.below hw0
  have HTR := Lib.hid h
  have HTR0 := Lib.hid h0
  have HW0 := Lib.hid hw0
  clear h0 hw0
  have HX := Lib.hid hx
  have hE : pathE t x = 0 := by unfold pathE; rw [if_pos hB, if_pos hV]
  have ht := fun W (hW : TreeR W v t) (hX : Ints .i64 W vx x) => trail_any v vx t x W hW hX
  rw [hE] at ht
  simp only [if_true] at ht
  have HT := Lib.hid ht
  obtain ⟨s1, s2, s3⟩ := stepL_ok hB x
  have HS3 := Lib.hid s3
  obtain ⟨nv, rfl, ad, cc, rfl, _, _, q3, _⟩ := h
  obtain ⟨ax, cx, rfl, _⟩ := hx
  obtain ⟨b, o, rfl⟩ := HTR.out.addr (i := 0) (by have := (treeB_true.1 hB).len; omega)
  obtain ⟨n, hn⟩ : ∃ n, t.nodes.length = n := ⟨_, rfl⟩
  rw [hn] at q3 HTR HTR0 HT ⊢
  have HL := Lib.hid hn
  obtain ⟨D, hD⟩ : ∃ D, t.dim = D := ⟨_, rfl⟩
  rw [hD] at HTR HTR0 HT ⊢
  obtain ⟨SL, hSL⟩ : ∃ SL, stepL t x = SL := ⟨_, rfl⟩
  rw [hSL] at HS3 s1 s2 ⊢
  obtain ⟨m, hm⟩ : ∃ m, SL.length = m := ⟨_, rfl⟩
  rw [hm] at s1 s2
  have HM := Lib.hid hm
  have HWL := Lib.hid s1
  have i6 : (m : Int) ≤ 6 := by omega
  clear hE ht hB hV s1 s3 hn hD hSL hm
  generalize x.length = xl at *
  go_enter Try.func66, Try.ntmps66
  go_wp2_with fail
  (with_reducible refine (HT.out _ (HTR.out.below (by (repeat (first | with_reducible exact Below.refl _ _ | ((with_reducible refine Below.setCell ?_ ?_ _); rotate_left; (focus (first | omega | (simp; done) | (simp; omega)))) | ((with_reducible refine Below.alloc ?_ ?_ _); rotate_left; (focus (first | omega | (simp; done) | (simp; omega)))) | (with_reducible refine Below.drew ?_) | (with_reducible refine below_drewN ?_ _))))) (HX.out.below (by (repeat (first | with_reducible exact Below.refl _ _ | ((with_reducible refine Below.setCell ?_ ?_ _); rotate_left; (focus (first | omega | (simp; done) | (simp; omega)))) | ((with_reducible refine Below.alloc ?_ ?_ _); rotate_left; (focus (first | omega | (simp; done) | (simp; omega)))) | (with_reducible refine Below.drew ?_) | (with_reducible refine below_drewN ?_ _)))))).mono ?_); rintro e w1 ⟨vo, rfl, iv, b1⟩; have s1 : w.heap.size + 1 ≤ w1.heap.size := (by have := b1.size; first | omega | (simp at this; omega)); have B1 := Lib.hid (show Below w.heap.size w w1 from below_tr (by (repeat (first | with_reducible exact Below.refl _ _ | ((with_reducible refine Below.setCell ?_ ?_ _); rotate_left; (focus (first | omega | (simp; done) | (simp; omega)))) | ((with_reducible refine Below.alloc ?_ ?_ _); rotate_left; (focus (first | omega | (simp; done) | (simp; omega)))) | (with_reducible refine Below.drew ?_) | (with_reducible refine below_drewN ?_ _)))) (b1.mono (by first | omega | (simp; done) | (simp; omega)))); have c1_0 : w1.cell? ⟨w.heap.size, 0, none⟩ = some (.int .i64 D) := (b1.cell (by first | omega | (simp; done) | (simp; omega))).trans (by go_simp); have c1_1 : w1.cell? ⟨w.heap.size, 1, none⟩ = some (.slice (some ⟨b, o, none⟩) n cc) := (b1.cell (by first | omega | (simp; done) | (simp; omega))).trans (by go_simp); have l1_0 : w.heap.size < w1.heap.size := (by omega); have n1_0 : w.heap.size ≠ w1.heap.size := (by omega); have m1_0 : w1.heap.size ≠ w.heap.size := (by omega); clear b1
  have IV := Lib.hid iv
  obtain ⟨pa, pc, rfl, _⟩ := iv
  rw [List.length_map, ← HWL.out] at IV ⊢
  go_wp2_with fail
  go_loopw [7, 8, 9] (fun out i _ wr => ∃ (k : Nat) (ps : List (NodeP × Value)), i = .int .i64 k ∧ k ≤ m ∧ ps.map (·.1) = SL.take k ∧ (∀ p ∈ ps, Ints .i64 w0 p.2 p.1.coef) ∧ wr.ownsRow w1.heap.size 101 3 out k (ps.flatMap (stepF x)) ∧ Below w1.heap.size w1 wr) (fun _ i _ _ => m - (intOf i).toNat)
  case atStart => exact ⟨0, [], rfl, by omega, rfl, by simp, World.ownsRow_nil _ _ _ _, Below.refl _ _⟩
  case round =>
    obtain ⟨k, ps, rfl, hk, hps, hin, hown, hbr⟩ := hrel
    have HOWN := Lib.hid hown
    have HBR := Lib.hid hbr
    have HPS := Lib.hid hps
    have HIN := Lib.hid hin
    have hsz := hbr.size
    have i1 : (0 : Int) ≤ (k : Int) := by omega
    by_cases hlt : k < m
    · obtain ⟨nd, hnd⟩ := getElem?_ex (l := SL) (k := k) (by rw [HM.out]; exact hlt)
      obtain ⟨j, mm, g1, g2, g3, g4, g5, g6, g7⟩ := HS3.out k nd hnd
      have hjn : j < n := by have := (List.getElem?_eq_some_iff.1 g2).1; have := HL.out; omega
      obtain ⟨hbw0, hat⟩ := HTR0.out.node g2
      have hbw : b < w.heap.size := Nat.lt_of_lt_of_le hbw0 HW0.out.size
      obtain ⟨ca, ccc, hci, e00, e10, e20, e30, e40⟩ := hat.val
      have HB2 := Lib.hid (show Below w.heap.size w wr from below_tr B1.out (hbr.mono (by omega)))
      have HCI := Lib.hid hci
      have e0 := (HB2.out.cell (p := ⟨b, o + j * 5, none⟩) hbw).trans ((HW0.out.cell (p := ⟨b, o + j * 5, none⟩) hbw0).trans e00)
      have e1 := (HB2.out.cell (p := ⟨b, o + j * 5 + 1, none⟩) hbw).trans ((HW0.out.cell (p := ⟨b, o + j * 5 + 1, none⟩) hbw0).trans e10)
      have e2 := (HB2.out.cell (p := ⟨b, o + j * 5 + 2, none⟩) hbw).trans ((HW0.out.cell (p := ⟨b, o + j * 5 + 2, none⟩) hbw0).trans e20)
      have e3 := (HB2.out.cell (p := ⟨b, o + j * 5 + 3, none⟩) hbw).trans ((HW0.out.cell (p := ⟨b, o + j * 5 + 3, none⟩) hbw0).trans e30)
      have e4 := (HB2.out.cell (p := ⟨b, o + j * 5 + 4, none⟩) hbw).trans ((HW0.out.cell (p := ⟨b, o + j * 5 + 4, none⟩) hbw0).trans e40)
      clear e00 e10 e20 e30 e40
      obtain ⟨_, _, e, _, _, _, g⟩ := IV.out
      rw [List.length_map, ← HWL.out] at e
      injection e with q1 q2 q3'
      subst q1
      obtain ⟨xb, xo, rfl, xlt, xc⟩ := g k (j : Int) (by rw [List.getElem?_map, g1]; rfl)
      obtain ⟨NX, hNX⟩ : ∃ NX : Nat, (if leftB nd x = true then j + 1 else mm) = NX := ⟨_, rfl⟩
      obtain ⟨xb', xo', ee, _, xc'⟩ := g (k + 1) (NX : Int) (by rw [List.getElem?_map, g7, hNX]; rfl)
      injection ee with ee
      injection ee with ee1 ee2
      subst ee1 ee2
      have ex := (hbr.cell (p := ⟨xb, xo + k, none⟩) xlt).trans xc
      have ey := (hbr.cell (p := ⟨xb, xo + (k + 1), none⟩) xlt).trans xc'
      have b0 := (hbr.cell (p := ⟨w.heap.size, 1, none⟩) (by simp; omega)).trans c1_1
      have hEQ : (((j : Int) + 1) == (NX : Int)) = leftB nd x := by
        rw [← hNX]
        cases leftB nd x with
        | true => simp
        | false => simp; omega
      rw [g3] at e2
      have HST := Lib.hid (take_snoc' hnd)
      obtain ⟨LB, hLB⟩ : ∃ LB, leftB nd x = LB := ⟨_, rfl⟩
      rw [hLB] at hEQ
      have HLB := Lib.hid hLB
      have i2 : (k : Int) < (m : Int) := by omega
      have i3 : (0 : Int) ≤ (j : Int) := by omega
      have i4 : (j : Int) < (n : Int) := by omega
      have xz : xb < wr.heap.size := by omega
      have bz : b < wr.heap.size := by omega
      have wz : w.heap.size < wr.heap.size := by omega
      have xn : xb ≠ wr.heap.size := by omega
      have bn : b ≠ wr.heap.size := by omega
      have wn : w.heap.size ≠ wr.heap.size := by omega
      generalize nd.right = rt at *
      generalize nd.size = sz at *
      obtain ⟨AT, hAT⟩ : ∃ AT, nd.at_ = AT := ⟨_, rfl⟩
      rw [hAT] at e1
      have HAT := Lib.hid hAT
      obtain ⟨cl, hcl⟩ : ∃ cl, nd.coef.length = cl := ⟨_, rfl⟩
      rw [hcl] at e0 HCI
      clear hown hbr hps hin hnd g1 g2 g3 g4 g5 g6 g7 hat hci g hNX hLB hAT hcl xc xc'
      go_wp2_with fail
      go_region
      obtain ⟨W7, hW7⟩ : ∃ W7, W7 = (wr.alloc (.cells #[.slice ca cl ccc, .int .i64 AT, .int .i64 ((j : Int) + 1), .int .i64 rt, .int .i64 sz] 95)).drew := ⟨_, rfl⟩
      have u0 : W7.cell? ⟨wr.heap.size, 0, none⟩ = some (.slice ca cl ccc) := by rw [hW7]; go_simp
      have u1 : W7.cell? ⟨wr.heap.size, 1, none⟩ = some (.int .i64 AT) := by rw [hW7]; go_simp
      have u2 : W7.cell? ⟨wr.heap.size, 2, none⟩ = some (.int .i64 ((j : Int) + 1)) := by rw [hW7]; go_simp
      have u3 : W7.cell? ⟨xb, xo + (k + 1), none⟩ = some (.int .i64 NX) := by rw [hW7]; go_simp
      have B7 := Lib.hid (show Below wr.heap.size wr W7 from by rw [hW7]; (repeat (first | with_reducible exact Below.refl _ _ | ((with_reducible refine Below.setCell ?_ ?_ _); rotate_left; (focus (first | omega | (simp; done) | (simp; omega)))) | ((with_reducible refine Below.alloc ?_ ?_ _); rotate_left; (focus (first | omega | (simp; done) | (simp; omega)))) | (with_reducible refine Below.drew ?_) | (with_reducible refine below_drewN ?_ _))))
      have s7 : wr.heap.size < W7.heap.size := by rw [hW7]; simp
      have OWN7 := Lib.hid (show W7.ownsRow w1.heap.size 101 3 u7 k (ps.flatMap (stepF x)) by rw [hW7]; exact HOWN.out.alloc _)
      have NOB := Lib.hid (show u7.ownBlock ≠ some wr.heap.size from fun h => by have := (HOWN.out.lt _ h).2; omega)
      have XLT := Lib.hid xlt
      rw [← hW7]
      have p1 : wr.heap.size ≠ W7.heap.size := by omega
      have p2 : xb ≠ W7.heap.size := by omega
      have p3 : xb < W7.heap.size := by omega
      have hk1 : (k : Int) + 1 < (m : Int) + 1 := by omega
      have hk0 : (0 : Int) ≤ (k : Int) + 1 := by omega
      have hkw : IntKind.i64.wrap ((k : Int) + 1) = (k : Int) + 1 := i64_wrap (by omega) (by omega)
      clear hW7 e0 e1 e2 e3 e4 ex ey
      go_wp2_with fail
      go_region_held3 (fun w' => w'.cell? ⟨wr.heap.size, 0, none⟩ = some (.slice ca cl ccc) ∧ w'.cell? ⟨wr.heap.size, 1, none⟩ = some (.int .i64 AT) ∧ w'.cell? ⟨wr.heap.size, 2, none⟩ = some (.int .i64 ((j : Int) + 1)) ∧ w'.cell? ⟨xb, xo + (k + 1), none⟩ = some (.int .i64 (NX : Int))) (first | (go_simp; done) | (go_keep; done) | (refine ⟨?_, ?_, ?_, ?_⟩ <;> first | (go_simp; done) | (go_keep; done))) (first | ((refine app1_stepG rfl _ _ 98 rfl Try.underlying98 eiStep w1.heap.size (by rfl) OWN7.out (by rfl) rfl (by simp [Value.oneCell']) (by omega) (by omega) ?_; intro v8 w8 hown8 hb8 hk8; have OWN8 := Lib.hid hown8; have B8 := Lib.hid hb8; have k8 := hk8 wr.heap.size s7 NOB.out; have f0 := (cell_of_block (o := 0) k8).trans u0; have f1 := (cell_of_block (o := 1) k8).trans u1; have f2 := (cell_of_block (o := 2) k8).trans u2; have f3 := (hb8.cell (p := ⟨xb, xo + (k + 1), none⟩) XLT.out).trans u3; clear hown8 hb8 hk8 k8)))
      go_wp2_with fail
      go_roundw
      case rel =>
        refine ⟨k + 1, by go_num, by omega, ps ++ [(nd, .slice ca cl ccc)], by rw [List.map_append, HPS.out, HST.out]; rfl, ?_, ?_, below_tr HBR.out (below_tr (B7.out.mono (by omega)) B8.out)⟩
        · intro p1 p2 hp
          rcases List.mem_append.1 hp with hp | hp
          · exact HIN.out (p1, p2) hp
          · have hp2 : (p1, p2) = (nd, Value.slice ca cl ccc) := List.mem_singleton.1 hp
            injection hp2 with e1 e2
            subst e1 e2
            exact HCI.out
        · have hown := OWN8.out
          rw [List.flatMap_append]
          simp only [List.flatMap_cons, List.flatMap_nil, stepF, HAT.out, HLB.out]
          exact hown
      case measure => simp [intOf] <;> omega
    · obtain rfl : k = m := by omega
      have hpl : k = ps.length := by have := congrArg List.length hps; rw [List.length_map, List.length_take, HM.out] at this; omega
      have hst := own_steps (B := w.heap.size) hown hpl (by omega) hin
      rw [hps, List.take_of_length_le (by rw [HM.out]; exact Nat.le_refl _)] at hst
      have HST := Lib.hid hst
      have j1 : ¬ (k : Int) + 1 < (k : Int) + 1 := by omega
      clear hown hbr hps hin hst hpl
      go_wp2_with fail
      go_ret
      exact ⟨_, rfl, HST.out, by (repeat (first | with_reducible exact Below.refl _ _ | ((with_reducible refine Below.setCell ?_ ?_ _); rotate_left; (focus (first | omega | (simp; done) | (simp; omega)))) | ((with_reducible refine Below.alloc ?_ ?_ _); rotate_left; (focus (first | omega | (simp; done) | (simp; omega)))) | (with_reducible refine Below.drew ?_) | (with_reducible refine below_drewN ?_ _) | ((with_reducible refine Below.trans ?_ (Below.mono HBR.out ?_)); rotate_left; (focus (first | omega | (simp; done) | (simp; omega)))) | ((with_reducible refine Below.trans ?_ (Below.mono B1.out ?_)); rotate_left; (focus (first | omega | (simp; done) | (simp; omega))))))⟩
end Go.Proofs.Ytopodhcgfmpphaa
