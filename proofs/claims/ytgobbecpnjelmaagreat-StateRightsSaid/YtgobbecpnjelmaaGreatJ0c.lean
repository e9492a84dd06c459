/-
  TreeQ: Plain laws of trees: how deep nodes are, the leaves in their order, how long paths are.
  LexB: A drawn region with a barrier: a store into a cell that the region loads, behind all loads: the cells must hold as they were up to the barrier alone.
  ItemB: Walks of item.checked (a score), item.GetScore, and of the reference's form and GetScore.
  ItemK: Walks of RightSeen, the program's and the reference's.
  BinV: Walk of the reader's Ints once more: what it hands back is new memory.
  Tail2: A region that draws its order: three operations that look at no memory, a forced head (calls), behind it operations that only read.
  RefLog: Walk of copseref01.Log.
  HarmB: Walks of copseref05: the average of a number of points.
  RowZ: A struct of many cells: stored whole, loaded whole, given back whole.
  ScoreB: Walks of score.all and of the reference's All.
  ScoreC: Walks of score.merge and score.sorted.
  ScoreD: Walks of score.sorted and score.Sort.
-/
import Derived.Test.YtgobbecpnjelmaaGreatJ0b
import Derived.Test.YtgobbecpnjelmaaGreatJ0a
import Derived.Lib.ItoaNum
import Derived.Deep.MidRow
namespace Go.Proofs.YtgobbecpnjelmaaGreat
open Go.RowKit

/-- How deep a node is, seen from one above. -/
def depT (t : TreeP) : Nat → Nat → Nat → Nat
  | 0, _, _ => 0
  | f + 1, i, j => if j = i then 0 else match t.nodes[i]? with
    | none => 0
    | some n => if (j : Int) < n.right then depT t f (i + 1) j + 1 else depT t f n.right.toNat j + 1

def depOf (t : TreeP) (i : Nat) : Nat := depT t 6 0 i

def sizeOf' (t : TreeP) (i : Nat) : Int := (t.nodes[i]?).elim 0 NodeP.size

def lenOf (t : TreeP) (i : Nat) : Int := (depOf t i : Int) * 1073741824 + normI (sizeOf' t i)
end Go.Proofs.YtgobbecpnjelmaaGreat

namespace Go.Proofs.YtgobbecpnjelmaaGreat
open Go.RowKit

theorem own_set {w : World} {base e size n : Nat} {v : Value} {xs : List Value} {A : Addr} {u : Value} (h : w.ownsRow base e size v n xs) (hA : A.block < base) : (w.setCell A u).ownsRow base e size v n xs :=
  own_keep h fun g hg _ => Below.heap_setCell _ _ _ _ (by omega)

theorem own_drew {w : World} {base e size n : Nat} {v : Value} {xs : List Value} (h : w.ownsRow base e size v n xs) : w.drew.ownsRow base e size v n xs := h

/-- The block of a slice lies between two bounds. -/
def Betw (B U : Nat) (v : Value) : Prop := ∀ b o n c, v = .slice (some ⟨b, o, none⟩) n c → B ≤ b ∧ b < U

theorem Betw.own {w : World} {base e size n : Nat} {v : Value} {xs : List Value} (h : w.ownsRow base e size v n xs) : Betw base w.heap.size v := fun b o n' c' hv => by
  have hlt := h.lt
  subst hv
  rcases h.2 with ⟨h1, _⟩ | ⟨g, cap, cur, h1, _⟩
  · cases h1
  · injection h1 with h1 h2 h3
    injection h1 with h1
    injection h1 with h1 h2
    subst h1
    exact hlt b (by subst h2 h3; rfl)

section
variable {P : Program} {ops : Array Oper} {Q : Exit → Act → World → Prop} {md : Region.Mode} {T : World → Prop} {k : Nat}

end
end Go.Proofs.YtgobbecpnjelmaaGreat

namespace Go.Proofs.YtgobbecpnjelmaaGreat
open Go.RowKit

theorem RdTo.rd {w w' : World} {R : Nat} {v : Value} {l : List Int} {a : Nat} {e : Int} (h : RdTo w R v l w' a e) : Rd w' R v l a e := h.1

end Go.Proofs.YtgobbecpnjelmaaGreat

namespace Go.Proofs.YtgobbecpnjelmaaGreat
open Go.RowKit

/-- A seen event is right. -/
def seenB (id : Int) (x : List Int) (P Q : Int) (s : Bool) (dim : Int) : Bool := decide (1 ≤ id ∧ id ≤ 1099511627776) && vecB x dim && (if s = true then scoreB (P, Q) else decide (P = 0 ∧ Q = 0))

set_option maxRecDepth 100000 in
set_option maxHeartbeats 8000000 in
theorem rightSeen_any (id P Q dim : Int) (s : Bool) (vx : Value) (x : List Int) (w : World) (h : Ints .i64 w vx x) :
    Calls Tryz.prog 75 #[.agg #[.int .i64 id, vx, .int .i64 P, .int .i64 Q, .bool s], .int .i64 dim] w fun e w' => e = .returned (.bool (seenB id x P Q s dim)) ∧ Below w.heap.size w w' := by
  have HX := Lib.hid h
  obtain ⟨xa, xc, rfl⟩ := h.shape
  have HV := Lib.hid (fun W (hW : Ints .i64 W (.slice xa x.length xc) x) => vis_any _ x dim W hW)
  have HS := Lib.hid (fun W => sis_any P Q W)
  have HR := Lib.hid (show seenB id x P Q s dim = (decide (1 ≤ id ∧ id ≤ 1099511627776) && vecB x dim && (if s = true then scoreB (P, Q) else decide (P = 0 ∧ Q = 0))) from rfl)
  generalize seenB id x P Q s dim = R at *
  clear h
  by_cases hid : 1 ≤ id ∧ id ≤ 1099511627776
  · rw [decide_eq_true hid] at HR
    obtain ⟨i1, i2⟩ := hid
    generalize vecB x dim = V at *
    cases V with
    | false =>
      have HR2 := Lib.hid (show R = false by rw [HR.out]; rfl)
      clear HR
      go_enter Tryz.func75, Tryz.ntmps75
      go_wp2_with fail
      (with_reducible refine (HV.out _ (HX.out.below bw)).mono ?_)
      rintro e w1 ⟨rfl, rfl⟩
      go_wp2_with fail
      go_ret
      exact ⟨ret_bool HR2.out.symm, bw⟩
    | true =>
      cases s with
      | true =>
        have HR2 := Lib.hid (show R = scoreB (P, Q) by rw [HR.out]; rfl)
        clear HR
        generalize scoreB (P, Q) = B at *
        cases B with
        | true =>
          go_enter Tryz.func75, Tryz.ntmps75
          go_wp2_with fail
          (with_reducible refine (HV.out _ (HX.out.below bw)).mono ?_)
          rintro e w1 ⟨rfl, rfl⟩
          go_wp2_with fail
          (with_reducible refine (HS.out _).mono ?_); rintro e w2 ⟨rfl, b2⟩; have s2 : w.heap.size + 1 ≤ w2.heap.size := sz b2; have B2 := Lib.hid (Bc (B := w.heap.size) (a := w) bw b2); obtain ⟨c2_0, c2_1, c2_2, c2_3, c2_4⟩ := k5 (w.heap.size) (.int .i64 id) (.slice xa x.length xc) (.int .i64 P) (.int .i64 Q) (.bool true) b2 (by and_intros <;> go_simp); obtain ⟨l2_0, n2_0, m2_0⟩ := lnm (show w.heap.size < w2.heap.size by omega); clear b2
          go_wp2_with fail
          go_ret
          exact ⟨ret_bool HR2.out.symm, B2.out⟩
        | false =>
          go_enter Tryz.func75, Tryz.ntmps75
          go_wp2_with fail
          (with_reducible refine (HV.out _ (HX.out.below bw)).mono ?_)
          rintro e w1 ⟨rfl, rfl⟩
          go_wp2_with fail
          (with_reducible refine (HS.out _).mono ?_); rintro e w2 ⟨rfl, b2⟩; have s2 : w.heap.size + 1 ≤ w2.heap.size := sz b2; have B2 := Lib.hid (Bc (B := w.heap.size) (a := w) bw b2); obtain ⟨c2_0, c2_1, c2_2, c2_3, c2_4⟩ := k5 (w.heap.size) (.int .i64 id) (.slice xa x.length xc) (.int .i64 P) (.int .i64 Q) (.bool true) b2 (by and_intros <;> go_simp); obtain ⟨l2_0, n2_0, m2_0⟩ := lnm (show w.heap.size < w2.heap.size by omega); clear b2
          go_wp2_with fail
          go_ret
          exact ⟨ret_bool HR2.out.symm, B2.out⟩
      | false =>
        have HR2 := Lib.hid (show R = decide (P = 0 ∧ Q = 0) by rw [HR.out]; rfl)
        clear HR
        go_enter Tryz.func75, Tryz.ntmps75
        go_wp2_with fail
        (with_reducible refine (HV.out _ (HX.out.below bw)).mono ?_)
        rintro e w1 ⟨rfl, rfl⟩
        go_wp2_with fail
        all_goals
          go_ret
          refine ⟨ret_bool ?_, bw⟩
          rw [HR2.out]
          first | rfl | (simp [*]; done)
  · have HR2 := Lib.hid (show R = false by rw [HR.out, decide_eq_false hid]; rfl)
    clear HR
    have hid2 : id < 1 ∨ 1099511627776 < id := by omega
    clear hid
    rcases hid2 with h1 | h1
    · go_enter Tryz.func75, Tryz.ntmps75
      go_wp2_with fail
      go_ret
      exact ⟨ret_bool HR2.out.symm, bw⟩
    · have h2 : ¬ id < 1 := by omega
      go_enter Tryz.func75, Tryz.ntmps75
      go_wp2_with fail
      go_ret
      exact ⟨ret_bool HR2.out.symm, bw⟩
end Go.Proofs.YtgobbecpnjelmaaGreat

namespace Go.Proofs.YtgobbecpnjelmaaGreat
open Go.RowKit

end Go.Proofs.YtgobbecpnjelmaaGreat

namespace Go.Proofs.YtgobbecpnjelmaaGreat
open Go.RowKit

/-- What stands behind a forced head: a walk that only reads. -/
inductive CalmNext (P : Program) (ops : Array Oper) (Q : Exit → Act → World → Prop) (l : List Oper) : Exit → Act → World → Prop
  | normal {a : Act} {w : World} : wpQuiet P ops (fun w' => ∃ n, w' = w.drewN n) (fun a' => ∀ w', (∃ n, w' = w.drewN n) → Q .normal a' w') l a → CalmNext P ops Q l .normal a w
  | other {e : Exit} {a : Act} {w : World} : e ≠ .normal → Q e a w → CalmNext P ops Q l e a w

theorem wpAny_of_head_calm {P : Program} {md : Region.Mode} {ops : Array Oper} {Q : Exit → Act → World → Prop} {rest : List Oper} (hs : Region.noSelect ops = true) (m : Nat) (hrest : ∀ j, rest[j]? = ops[m + j]?) :
    ∀ (l : List Oper) (k : Nat) (listed : Array Bool) (a : Act) (w : World), k + l.length = m → (∀ j, j < l.length → l[j]? = ops[k + j]?) → headB md ops l.length k listed = true →
      Region.lexFrom md ops rest.length m (markB l.length k listed) = true → wpList P ops (CalmNext P ops Q rest) l a w → wpAny P md ops Q (l.length + rest.length) listed a w
  | [], k, listed, a, w, hk, _, _, hlex, h => by
    rw [List.length_nil, Nat.zero_add]
    refine wpAny_of_quiet (C := fun w' => ∃ n, w' = w.drewN n) (Q := fun a' => ∀ w', (∃ n, w' = w.drewN n) → Q .normal a' w') (fun _ w' hw' h => h w' hw') _ _ _ _ ⟨0, rfl⟩ ?_
    have h' : CalmNext P ops Q rest .normal a w := h
    cases h' with
    | normal h' => exact wpAnyQ_lex hs rest m listed a hrest hlex h'
    | other hne _ => exact absurd rfl hne
  | o :: l, k, listed, a, w, hk, hl, hB, hlex, h => by
    have h0 : ops[k]? = some o := by have := hl 0 (by simp); simpa using this.symm
    simp only [List.length_cons, headB, Bool.and_eq_true, decide_eq_true_eq] at hB
    rw [List.length_cons, show l.length + 1 + rest.length = l.length + rest.length + 1 by omega]
    refine ⟨fun h1 => (by rw [hB.1] at h1; cases h1), fun i hi => ?_⟩
    rw [hB.1] at hi
    obtain rfl : i = k := by simpa using hi
    have hq : ∀ e a w, e ≠ .normal → CalmNext P ops Q rest e a w → Q e a w := fun e a w he hh => by
      cases hh with
      | normal _ => exact absurd rfl he
      | other _ h => exact h
    have hw : wpOp P ops Q i (wpList P ops (CalmNext P ops Q rest) l) a w := by
      unfold wpList at h
      unfold wpOp
      simp only [h0]
      split
      · rename_i hwant
        rw [if_pos hwant] at h
        rcases h with h | ⟨h1, a', w', h2⟩
        · exact .inl (wp_q hq h)
        · exact .inr ⟨h1, a', w', hq _ _ _ (by simp) h2⟩
      · rename_i hwant
        rw [if_neg hwant] at h
        exact h
    exact wpOp_mono (fun a' w' h' => wpAny_of_head_calm hs m hrest l (i + 1) _ a' w' (by simp at hk; omega) (fun j hj => by have := hl (j + 1) (by simp; omega); simpa [Nat.add_assoc, Nat.add_comm 1 j] using this) hB.2 hlex h') hw

/-- The same behind three operations that look at no memory (a value, an index, an address). -/
theorem wp_region_free_head_quiet {P : Program} {id : Nat} {Q : Exit → Act → World → Prop} {a : Act} {w : World} {o0 o1 o2 : Oper} {l : List Oper} (v0 v1 v2 : Value) (n : Nat) (hm : P.follows .mixedOrders = true)
    (hs : Region.noSelect (o0 :: o1 :: o2 :: l).toArray = true)
    (hf0 : (Region.free .any (o0 :: o1 :: o2 :: l).toArray (Array.replicate (l.length + 3) false) 0 && (Region.ready .any (o0 :: o1 :: o2 :: l).toArray (Array.replicate (l.length + 3) false)).contains 0) = true)
    (hf1 : (Region.free .any (o0 :: o1 :: o2 :: l).toArray ((Array.replicate (l.length + 3) false).setIfInBounds 0 true) 1 && (Region.ready .any (o0 :: o1 :: o2 :: l).toArray ((Array.replicate (l.length + 3) false).setIfInBounds 0 true)).contains 1) = true)
    (hf2 : (Region.free .any (o0 :: o1 :: o2 :: l).toArray (((Array.replicate (l.length + 3) false).setIfInBounds 0 true).setIfInBounds 1 true) 2 && (Region.ready .any (o0 :: o1 :: o2 :: l).toArray (((Array.replicate (l.length + 3) false).setIfInBounds 0 true).setIfInBounds 1 true)).contains 2) = true)
    (hn : n ≤ l.length)
    (hB : (headB .any (o0 :: o1 :: o2 :: l).toArray n 3 ((((Array.replicate (l.length + 3) false).setIfInBounds 0 true).setIfInBounds 1 true).setIfInBounds 2 true) &&
      Region.lexFrom .any (o0 :: o1 :: o2 :: l).toArray (l.length - n) (3 + n) (markB n 3 ((((Array.replicate (l.length + 3) false).setIfInBounds 0 true).setIfInBounds 1 true).setIfInBounds 2 true))) = true)
    (hQ0 : ∀ c a w, Q (.panic c) (a.put o0.dst v0) w → Q (.panic c) a w) (hQ1 : ∀ c a w, Q (.panic c) (a.put o1.dst v1) w → Q (.panic c) a w) (hQ2 : ∀ c a w, Q (.panic c) (a.put o2.dst v2) w → Q (.panic c) a w)
    (hy0 : Yields P (o0 :: o1 :: o2 :: l).toArray o0 v0 a) (hy1 : Yields P (o0 :: o1 :: o2 :: l).toArray o1 v1 (a.put o0.dst v0)) (hy2 : Yields P (o0 :: o1 :: o2 :: l).toArray o2 v2 ((a.put o0.dst v0).put o1.dst v1))
    (h : wpList P (o0 :: o1 :: o2 :: l).toArray (CalmNext P (o0 :: o1 :: o2 :: l).toArray Q (l.drop n)) (l.take n) (((a.put o0.dst v0).put o1.dst v1).put o2.dst v2) w.drew) : (Code.region id (o0 :: o1 :: o2 :: l).toArray true).wp P Q a w := by
  simp only [Bool.and_eq_true] at hf0 hf1 hf2 hB
  refine wp_region_any hm ?_
  rw [show (o0 :: o1 :: o2 :: l).toArray.size = l.length + 3 by simp]
  refine wpAny_take (i := 0) (v := v0) rfl hs hf0.1 hf0.2 hQ0 hy0 ?_
  refine wpAny_take (i := 1) (v := v1) rfl hs hf1.1 hf1.2 hQ1 hy1 ?_
  refine wpAny_take (i := 2) (v := v2) rfl hs hf2.1 hf2.2 hQ2 hy2 ?_
  have e1 : (l.take n).length = n := by simp; omega
  have e2 : (l.drop n).length = l.length - n := by simp
  have := wpAny_of_head_calm (P := P) (md := .any) (ops := (o0 :: o1 :: o2 :: l).toArray) (Q := Q) (rest := l.drop n) hs (3 + n) (fun j => by rw [List.getElem?_drop]; simp [show 3 + n + j = n + j + 1 + 1 + 1 by omega]) (l.take n) 3 _ _ w.drew (by rw [e1])
    (fun j hj => by rw [e1] at hj; simp [hj, show 3 + j = j + 1 + 1 + 1 by omega]) (by rw [e1]; exact hB.1) (by rw [e1, e2]; exact hB.2) h
  rw [e1, e2, show n + (l.length - n) = l.length by omega] at this
  exact this
end Go.Proofs.YtgobbecpnjelmaaGreat

namespace Go.Proofs.YtgobbecpnjelmaaGreat
open Go.RowKit

theorem bitLen_is2 {m k : Nat} (h : m < 2 ^ k) (h' : k = 0 ∨ 2 ^ (k - 1) ≤ m) (hm : m < 2 ^ 64) : Lib.bitLen m = k := by
  rcases Nat.eq_zero_or_pos m with h0 | h0
  · subst h0
    have : Lib.bitLen 0 = 0 := Lib.bitLenAux_zero 64
    rcases h' with h' | h'
    · omega
    · have := Nat.two_pow_pos (k - 1); omega
  · obtain ⟨h1, h2, h3⟩ := Lib.bitLenAux_bounds 64 m hm (by omega)
    show Lib.bitLenAux 64 m = k
    generalize Lib.bitLenAux 64 m = j at *
    rcases h' with h' | h'
    · subst h'; omega
    · rcases Nat.lt_trichotomy j k with h4 | h4 | h4
      · have := Nat.pow_le_pow_right (show 0 < 2 by omega) (show j ≤ k - 1 by omega); omega
      · exact h4
      · have := Nat.pow_le_pow_right (show 0 < 2 by omega) (show k ≤ j - 1 by omega); omega

set_option maxRecDepth 100000 in
set_option maxHeartbeats 800000 in
theorem rlog2_any (n : Int) (w : World) (hn : Ok64 n) :
    Calls Tryz.prog 144 #[.int .i64 n] w fun e w' => e = .returned (.int .i64 (Lib.bitLen (n.toNat - 1))) ∧ w = w' := by
  have HN := Lib.hid hn
  unfold Ok64 at hn
  go_enter Tryz.func144, Tryz.ntmps144
  go_wp2
  go_loop [3, 4] (fun k p => ∃ (j q : Nat), k = .int .i64 j ∧ p = .int .i64 q ∧ q = 2 ^ j ∧ q ≤ 4611686018427387904 ∧ j ≤ 62 ∧ (j = 0 ∨ 2 ^ (j - 1) ≤ n.toNat - 1)) (fun k _ => 63 - (intOf k).toNat)
  case atStart => exact ⟨0, 1, rfl, rfl, rfl, by omega, by omega, .inl rfl⟩
  case round =>
    obtain ⟨j, q, rfl, rfl, hq, hq2, hj, hlow⟩ := hrel
    have HQ := Lib.hid hq; clear hq
    have HLOW := Lib.hid hlow; clear hlow
    by_cases hlt : (q : Int) < n
    · by_cases h62 : j = 62
      · subst h62
        have hq3 : (q : Int) = 4611686018427387904 := by have := HQ.out; omega
        have hneg : wrap64 ((q : Int) * 2) < 0 := by rw [hq3]; unfold wrap64; omega
        have HQ3 := Lib.hid hq3; clear hq3
        go_wp2
        go_ret
        refine ⟨ret_int ?_, rfl⟩
        rw [bitLen_is2 (k := 63) (m := n.toNat - 1) (by omega) (.inr (by have := HQ3.out; show 2 ^ 62 ≤ _; omega)) (by omega)]
        rfl
      · have hq4 : (q : Int) ≤ 2305843009213693952 := by
          have : 2 ^ j ≤ 2 ^ 61 := Nat.pow_le_pow_right (by omega) (by omega)
          rw [← HQ.out] at this; omega
        go_wp2
        go_round
        case rel => exact ⟨j + 1, q * 2, by go_num, by go_num, by rw [HQ.out, Nat.pow_succ], by omega, by omega, .inr (by rw [Nat.add_sub_cancel, ← HQ.out]; omega)⟩
        case measure => simp [intOf]; omega
    · go_wp2
      go_ret
      refine ⟨ret_int ?_, rfl⟩
      rw [bitLen_is2 (k := j) (m := n.toNat - 1) (by rw [← HQ.out]; have := Nat.two_pow_pos j; have := HQ.out; omega) HLOW.out (by omega)]
end Go.Proofs.YtgobbecpnjelmaaGreat

namespace Go.Proofs.YtgobbecpnjelmaaGreat
open Go.RowKit

end Go.Proofs.YtgobbecpnjelmaaGreat

namespace Go.Proofs.YtgobbecpnjelmaaGreat
open Go.RowKit

theorem ovw_all {cur : Array Value} {vs : List Value} (h : vs.length = cur.size) : ovw cur 0 vs = vs.toArray := by
  apply Array.ext_getElem?
  intro j
  rw [ovw_get _ _ _ _ (by omega), if_neg (by omega), Nat.zero_add, Nat.sub_zero]
  by_cases hj : j < vs.length
  · rw [if_pos hj]; simp
  · rw [if_neg hj, Array.getElem?_eq_none (by omega), Array.getElem?_eq_none (by simp; omega)]

section
variable {P : Program} {w : World} {b : Nat} {T : TypeId} {zs cells : Array Value}

theorem RowAt.range (h : RowAt w b T cells) : w.rangeAt b 0 cells.toList := fun j v hv => by
  rw [Nat.zero_add, h.cell]
  simpa using hv

/-- A whole struct is stored. -/
theorem storeRow {ops : Array Oper} {rest : List Oper} {op : Oper} {a : Act} {Q : Exit → Act → World → Prop} (hgd : op.guard = none) (ty : TypeId) (x y : Operand) (ho : op.op = .store ty x y) (hrow : RowAt w b T zs)
    (hx : a.eval x = .pointer (some ⟨b, 0, none⟩)) (hy : a.eval y = .agg cells) (hn : cells.size = zs.size) (hi : (P.info? ty).map (·.size) = some cells.size) (h1 : cells.all (·.oneCell') = true)
    (h : ∀ w', RowAt w' b T cells → w.grownBy w' (some b) → wpList P ops Q rest (a.put op.dst undef) w') : wpList P ops Q (op :: rest) a w := by
  refine wpList_store_mid hgd ty x y ho b 0 cells hx hy (fun j hj => ?_) hi h1 (h _ ?_ ?_)
  · rw [Nat.zero_add, hrow.cell]
    exact ⟨by rw [Array.getElem?_eq_getElem (by omega)]; rfl, hrow.frozen _⟩
  · have := hrow.sets cells.toList 0
    rw [ovw_all (by simpa using hn)] at this
    simpa using this
  · have hb := sets_below (g := b) (Nat.zero_le _) cells.toList 0 (Below.refl 0 w)
    exact ⟨hb.os, hb.tape, hb.output, hb.size, fun k _ hk => sets_other _ _ _ (fun e => hk (by rw [e]))⟩

/-- A whole struct is loaded. -/
theorem loadRow {ops : Array Oper} {rest : List Oper} {op : Oper} {a : Act} {Q : Exit → Act → World → Prop} (hgd : op.guard = none) (ty : TypeId) (x : Operand) (ho : op.op = .load ty x) (hrow : RowAt w b T cells)
    (hx : a.eval x = .pointer (some ⟨b, 0, none⟩)) {d : TypeDesc} (hu : P.underlying ty = some d) (hd : d.isRow = true) (hi : (P.info? ty).map (·.size) = some cells.size)
    (h : wpList P ops Q rest (a.put op.dst (.agg cells)) w) : wpList P ops Q (op :: rest) a w :=
  wpList_load_mid hgd ty x ho b 0 hx cells.toList d hrow.range hu hd (by simpa using hi) (by simpa using h)

theorem RowAt.load (hrow : RowAt w b T cells) (ty : TypeId) {d : TypeDesc} (hu : P.underlying ty = some d) (hd : d.isRow = true) (hi : (P.info? ty).map (·.size) = some cells.size) : (loadVar ty ⟨b, 0, none⟩).run P w = .ok (.agg cells) w := by
  have := run_loadVar_mid (P := P) w b 0 ty cells.toList d hrow.range hu hd (by simpa using hi)
  simpa using this

/-- A struct in memory and another result. -/
theorem ret_cell_tmp {fn : Func} {a : Act} {i j : Nat} {t : TypeId} {v : Value} (hf : fn.results = #[.cell i t, .tmp j]) (hi : a.tmps.getD i undef = .pointer (some ⟨b, 0, none⟩)) (hj : a.tmps.getD j undef = v) (hrow : RowAt w b T cells)
    {d : TypeDesc} (hu : P.underlying t = some d) (hd : d.isRow = true) (hs : (P.info? t).map (·.size) = some cells.size) : (results fn a.tmps).run P w = .ok (.tuple #[.agg cells, v]) w := by
  have hl := hrow.load t hu hd hs
  unfold results
  rw [hf]
  simp only [List.mapM_toArray, List.mapM_cons, List.mapM_nil, hi, hj]
  simp [asAddr, hl]

end
end Go.Proofs.YtgobbecpnjelmaaGreat

namespace Go.Proofs.YtgobbecpnjelmaaGreat
open Go.RowKit

theorem allS_take {l : List (Int × Int)} {k : Nat} {x : Int × Int} (hx : l[k]? = some x) (h : allS (l.take k) = true) (hs : scoreB x = true) : allS (l.take (k + 1)) = true := by
  rw [take_snoc' hx]
  unfold allS at *
  rw [List.all_append, h]
  simp [hs]

theorem allS_not {l : List (Int × Int)} {k : Nat} {x : Int × Int} (hx : l[k]? = some x) (hs : scoreB x = false) : allS l = false := by
  unfold allS
  rw [List.all_eq_false]
  exact ⟨x, List.mem_of_getElem? hx, by rw [hs]; simp⟩

set_option maxRecDepth 100000 in
set_option maxHeartbeats 4000000 in
theorem sall_any (v : Value) (l : List (Int × Int)) (w : World) (h : PairsR w v l) : Calls Tryz.prog 114 #[v] w fun e w' => e = .returned (.int .i64 (if allS l = true then 0 else 130)) ∧ Below w.heap.size w w' := by
  have HX := Lib.hid h
  obtain ⟨ad, c, rfl, q1, q2, q3, _⟩ := h
  obtain ⟨n, hn⟩ : ∃ n, l.length = n := ⟨_, rfl⟩
  rw [hn] at q1 q3 HX ⊢
  have HN := Lib.hid hn
  clear hn
  obtain ⟨R, hR⟩ : ∃ R, (if allS l = true then (0 : Int) else 130) = R := ⟨_, rfl⟩
  rw [hR]
  have HR := Lib.hid hR
  clear hR
  go_enter Tryz.func114, Tryz.ntmps114
  go_wp2_with fail
  go_loopw [4, 7] (fun _ i wr => ∃ k : Nat, i = .int .i64 k ∧ k ≤ n ∧ allS (l.take k) = true ∧ Below w.heap.size w wr) (fun _ i _ => n - (intOf i).toNat)
  case atStart => exact ⟨0, rfl, by omega, rfl, bw⟩
  case round =>
    obtain ⟨k, rfl, hk, hall, hbr⟩ := hrel
    have HA := Lib.hid hall
    have HBR := Lib.hid hbr
    have hsz := hbr.size
    have i1 : (0 : Int) ≤ (k : Int) := by omega
    by_cases hlt : k < n
    · obtain ⟨⟨p, q⟩, hx⟩ := getElem?_ex (l := l) (k := k) (by rw [HN.out]; exact hlt)
      obtain ⟨b, o, rfl⟩ := HX.out.addr (by rw [HN.out]; omega)
      obtain ⟨hb, c0, c1⟩ := HX.out.at hx
      have e0 := (hbr.cell (p := ⟨b, o + k * 2, none⟩) hb).trans c0
      have e1 := (hbr.cell (p := ⟨b, o + k * 2 + 1, none⟩) hb).trans c1
      have HK := Lib.hid hx
      have i2 : (k : Int) < (n : Int) := by omega
      have hbz : b < wr.heap.size := by omega
      have hbz2 : b ≠ wr.heap.size := by omega
      have HIS := Lib.hid (fun W => sis_any p q W)
      have HYES := Lib.hid (fun hs : scoreB (p, q) = true => allS_take HK.out HA.out hs)
      have HNO := Lib.hid (fun hs : scoreB (p, q) = false => allS_not HK.out hs)
      clear c0 c1 hx hall hbr
      obtain ⟨TB, hTB⟩ : ∃ TB, scoreB (p, q) = TB := ⟨_, rfl⟩
      rw [hTB] at HIS HYES HNO
      clear hTB
      cases TB with
      | false =>
        have HN2 := Lib.hid (HNO.out rfl)
        clear HYES
        go_wp2_with fail
        (with_reducible refine (HIS.out _).mono ?_)
        rintro e w4 ⟨rfl, b4⟩
        have B4 := Lib.hid (show Below wr.heap.size wr w4 from below_tr bw (b4.mono (by first | omega | (simp; done) | (simp; omega))))
        clear b4
        go_wp2_with fail
        exact bodyPost_ret (v := .int .i64 130) (by simp [results, Tryz.results114, go_sem]) rfl ⟨by rw [← HR.out, HN2.out]; try rfl, by (repeat (first | with_reducible exact Below.refl _ _ | with_reducible refine Bs ?_ | with_reducible refine Ba ?_ | with_reducible refine Bd ?_ | with_reducible refine Bn ?_ | with_reducible refine Bt B4.out ?_ | with_reducible refine Bt HBR.out ?_))⟩
      | true =>
        have HN2 := Lib.hid (HYES.out rfl)
        clear HNO
        go_wp2_with fail
        (with_reducible refine (HIS.out _).mono ?_)
        rintro e w4 ⟨rfl, b4⟩
        have B4 := Lib.hid (show Below wr.heap.size wr w4 from below_tr bw (b4.mono (by first | omega | (simp; done) | (simp; omega))))
        clear b4
        go_wp2_with fail
        go_roundw
        case rel => exact ⟨k + 1, by go_num, by omega, HN2.out, by (repeat (first | with_reducible exact Below.refl _ _ | with_reducible refine Bs ?_ | with_reducible refine Ba ?_ | with_reducible refine Bd ?_ | with_reducible refine Bn ?_ | with_reducible refine Bt B4.out ?_ | with_reducible refine Bt HBR.out ?_))⟩
        case measure => simp [intOf] <;> omega
    · obtain rfl : k = n := by omega
      have htk : l.take k = l := List.take_of_length_le (by rw [HN.out]; exact Nat.le_refl _)
      have HN2 := Lib.hid (htk ▸ HA.out)
      clear htk hall hbr
      go_wp2_with fail
      go_ret
      exact ⟨by rw [← HR.out, HN2.out]; try rfl, bx HBR.out⟩

set_option maxRecDepth 100000 in
set_option maxHeartbeats 4000000 in
theorem rall13_any (v : Value) (l : List (Int × Int)) (w : World) (h : PairsR w v l) : Calls Tryz.prog 118 #[v] w fun e w' => e = .returned (.bool (allS l)) ∧ Below w.heap.size w w' := by
  have HX := Lib.hid h
  obtain ⟨ad, c, rfl, q1, q2, q3, _⟩ := h
  obtain ⟨n, hn⟩ : ∃ n, l.length = n := ⟨_, rfl⟩
  rw [hn] at q1 q3 HX ⊢
  have HN := Lib.hid hn
  clear hn
  obtain ⟨R, hR⟩ : ∃ R, allS l = R := ⟨_, rfl⟩
  rw [hR]
  have HR := Lib.hid hR
  clear hR
  go_enter Tryz.func118, Tryz.ntmps118
  go_wp2_with fail
  go_loopw [3] (fun i wr => ∃ k : Nat, i = .int .i64 k ∧ k ≤ n ∧ allS (l.take k) = true ∧ Below w.heap.size w wr) (fun i _ => n - (intOf i).toNat)
  case atStart => exact ⟨0, rfl, by omega, rfl, bw⟩
  case round =>
    obtain ⟨k, rfl, hk, hall, hbr⟩ := hrel
    have HA := Lib.hid hall
    have HBR := Lib.hid hbr
    have hsz := hbr.size
    have i1 : (0 : Int) ≤ (k : Int) := by omega
    by_cases hlt : k < n
    · obtain ⟨⟨p, q⟩, hx⟩ := getElem?_ex (l := l) (k := k) (by rw [HN.out]; exact hlt)
      obtain ⟨b, o, rfl⟩ := HX.out.addr (by rw [HN.out]; omega)
      obtain ⟨hb, c0, c1⟩ := HX.out.at hx
      have e0 := (hbr.cell (p := ⟨b, o + k * 2, none⟩) hb).trans c0
      have e1 := (hbr.cell (p := ⟨b, o + k * 2 + 1, none⟩) hb).trans c1
      have HK := Lib.hid hx
      have i2 : (k : Int) < (n : Int) := by omega
      have hbz : b < wr.heap.size := by omega
      have hbz2 : b ≠ wr.heap.size := by omega
      have HIS := Lib.hid (fun W => ris13_any p q W)
      have HYES := Lib.hid (fun hs : scoreB (p, q) = true => allS_take HK.out HA.out hs)
      have HNO := Lib.hid (fun hs : scoreB (p, q) = false => allS_not HK.out hs)
      clear c0 c1 hx hall hbr
      obtain ⟨TB, hTB⟩ : ∃ TB, scoreB (p, q) = TB := ⟨_, rfl⟩
      rw [hTB] at HIS HYES HNO
      clear hTB
      cases TB with
      | false =>
        have HN2 := Lib.hid (HNO.out rfl)
        clear HYES
        go_wp2_with fail
        (with_reducible refine (HIS.out _).mono ?_)
        rintro e w4 ⟨rfl, b4⟩
        have B4 := Lib.hid (show Below wr.heap.size wr w4 from below_tr bw (b4.mono (by first | omega | (simp; done) | (simp; omega))))
        clear b4
        go_wp2_with fail
        exact bodyPost_ret (v := .bool false) (by simp [results, Tryz.results118, go_sem]) rfl ⟨by rw [← HR.out, HN2.out]; try rfl, by (repeat (first | with_reducible exact Below.refl _ _ | with_reducible refine Bs ?_ | with_reducible refine Ba ?_ | with_reducible refine Bd ?_ | with_reducible refine Bn ?_ | with_reducible refine Bt B4.out ?_ | with_reducible refine Bt HBR.out ?_))⟩
      | true =>
        have HN2 := Lib.hid (HYES.out rfl)
        clear HNO
        go_wp2_with fail
        (with_reducible refine (HIS.out _).mono ?_)
        rintro e w4 ⟨rfl, b4⟩
        have B4 := Lib.hid (show Below wr.heap.size wr w4 from below_tr bw (b4.mono (by first | omega | (simp; done) | (simp; omega))))
        clear b4
        go_wp2_with fail
        go_roundw
        case rel => exact ⟨k + 1, by go_num, by omega, HN2.out, by (repeat (first | with_reducible exact Below.refl _ _ | with_reducible refine Bs ?_ | with_reducible refine Ba ?_ | with_reducible refine Bd ?_ | with_reducible refine Bn ?_ | with_reducible refine Bt B4.out ?_ | with_reducible refine Bt HBR.out ?_))⟩
        case measure => simp [intOf] <;> omega
    · obtain rfl : k = n := by omega
      have htk : l.take k = l := List.take_of_length_le (by rw [HN.out]; exact Nat.le_refl _)
      have HN2 := Lib.hid (htk ▸ HA.out)
      clear htk hall hbr
      go_wp2_with fail
      go_ret
      exact ⟨by rw [← HR.out, HN2.out]; try rfl, bx HBR.out⟩
end Go.Proofs.YtgobbecpnjelmaaGreat

namespace Go.Proofs.YtgobbecpnjelmaaGreat
open Go.RowKit

theorem eiScore : EI Tryz.prog 32 (.agg #[.int .i64 0, .int .i64 0]) 2 16 := .of (by kernel_rfl) rfl (by decide) (by decide)

def sliceN : Value → Nat
  | .slice _ n _ => n
  | _ => 0

theorem mergeS_nil (a : List (Int × Int)) : mergeS a [] = a := by
  cases a with
  | nil => unfold mergeS; rfl
  | cons x a => unfold mergeS; rfl

theorem allS_cons {x : Int × Int} {l : List (Int × Int)} (h : allS (x :: l) = true) : scoreB x = true ∧ allS l = true := by
  unfold allS at *
  simpa using h

theorem score_ok {p q : Int} (h : scoreB (p, q) = true) : Ok64 p ∧ Ok64 q := by
  have := scoreB_is.1 h
  unfold Ok64
  omega

theorem PairsR.tail {w : World} {b o n c : Nat} {x : Int × Int} {A : List (Int × Int)} (h : PairsR w (.slice (some ⟨b, o, none⟩) n c) (x :: A)) :
    PairsR w (.slice (if c = 1 then some ⟨b, o, none⟩ else some ⟨b, o + 2, none⟩) A.length (c - 1)) A := by
  have h0 := h
  obtain ⟨_, _, e, h1, h2, _⟩ := h0
  injection e with e1 e2 e3
  subst e3
  rw [List.length_cons] at h1
  by_cases hc : c = 1
  · rw [if_pos hc]
    have : A = [] := List.eq_nil_of_length_eq_zero (by omega)
    subst this
    exact pairs_nil _ _ _ (by omega)
  · rw [if_neg hc]
    have := h.cutAt (i := 1) (m := A.length) (by simp; omega) (o' := o + 2) (by omega) (c - 1) (by omega) (by omega)
    simpa using this

set_option maxRecDepth 100000 in
set_option maxHeartbeats 8000000 in
theorem smerge_any (va vb : Value) (a b : List (Int × Int)) (w : World) (ha : PairsR w va a) (hb : PairsR w vb b) (hl : a.length + b.length ≤ 100000) (sa : allS a = true) (sb : allS b = true) :
    Calls Tryz.prog 136 #[va, vb, .func (.func 116) #[] #[]] w fun e w' => ∃ v', e = .returned v' ∧ PairsR w' v' (mergeS a b) ∧ Below w.heap.size w w' := by
  obtain ⟨xa, xc, rfl⟩ := ha.shape
  obtain ⟨ya, yc, rfl⟩ := hb.shape
  have HPA := Lib.hid ha
  have HPB := Lib.hid hb
  obtain ⟨N, hN⟩ : ∃ N, a.length + b.length = N := ⟨_, rfl⟩
  have HN := Lib.hid hN
  have hNb : N ≤ 100000 := by omega
  have HSA := Lib.hid sa
  have HSB := Lib.hid sb
  obtain ⟨_, _, _, _, hb1, hb2, _⟩ := ha
  obtain ⟨_, _, _, _, hb3, hb4, _⟩ := hb
  obtain ⟨m1, hm1⟩ : ∃ m, a.length = m := ⟨_, rfl⟩
  obtain ⟨m2, hm2⟩ : ∃ m, b.length = m := ⟨_, rfl⟩
  have hmm : (m1 : Int) + m2 = (m1 + m2 : Nat) := by omega
  clear sa sb
  have HM1 := Lib.hid hm1
  have HM2 := Lib.hid hm2
  rw [hm1, hm2] at hN
  rw [hm1] at HPA ⊢
  rw [hm2] at HPB ⊢
  clear hm1 hm2 hb1 hb2 hb3 hb4
  go_enter Tryz.func136, Tryz.ntmps136
  go_wp2_with (at_make; go_must (refine mkown rfl _ _ 53 rfl Tryz.underlying53 eiScore w.heap.size N (by rfl) (by rfl) ?_ (by omega) (Nat.le_refl _) ?_))
  · rfl
  intro w1 hown hb1 _
  have HOWN := Lib.hid hown
  have B1 := Lib.hid hb1
  clear hown hb1
  go_wp2_with fail
  go_loopw [0, 1, 7] (fun x y out wr => ∃ (xa : Option Addr) (xc : Nat) (A : List (Int × Int)) (ya : Option Addr) (yc : Nat) (B D : List (Int × Int)), x = .slice xa A.length xc ∧ y = .slice ya B.length yc ∧ PairsR w (.slice xa A.length xc) A ∧ PairsR w (.slice ya B.length yc) B ∧ wr.ownsRow w.heap.size 32 2 out D.length (D.flatMap pairF) ∧ D ++ mergeS A B = mergeS a b ∧ D.length + A.length + B.length = N ∧ allS A = true ∧ allS B = true ∧ Below w.heap.size w wr) (fun x y _ _ => sliceN x + sliceN y)
  case atStart =>
    rw [← HM1.out, ← HM2.out]
    exact ⟨xa, xc, a, ya, yc, b, [], rfl, rfl, HM1.out ▸ HPA.out, HM2.out ▸ HPB.out, HOWN.out, rfl, by simp; exact HN.out, HSA.out, HSB.out, B1.out⟩
  case round =>
    obtain ⟨xa, xc, A, ya, yc, B, D, rfl, rfl, hA, hB, hown, hmer, hlen, sA, sB, hbr⟩ := hrel
    have HOWN := Lib.hid hown
    have HBR := Lib.hid hbr
    have HMER := Lib.hid hmer
    have HA := Lib.hid hA
    have HB := Lib.hid hB
    cases A with
    | nil =>
      have HE := Lib.hid (show D ++ B = mergeS a b by rw [← HMER.out]; unfold mergeS; rfl)
      obtain ⟨nb, hnb⟩ : ∃ n, B.length = n := ⟨_, rfl⟩
      rw [hnb] at hlen HB ⊢
      have HNB := Lib.hid hnb
      simp only [List.length_nil, Nat.add_zero] at hlen HA ⊢
      have hsz := hbr.size
      clear hA hB hown hmer sA sB hbr hnb
      go_wp2_with (at_builtin; go_must (refine appPairs rfl _ _ 53 rfl Tryz.underlying53 eiScore w.heap.size (by rfl) HOWN.out (by rfl) (HA.out.below HBR.out) (by simp; omega) hsz ?_))
      intro v5 w5 hown5 hb5 _
      have OWN5 := Lib.hid hown5
      have B5 := Lib.hid (below_tr HBR.out hb5)
      have hsz5 := B5.out.size
      clear hown5 hb5
      go_wp2_with (at_builtin; go_must (refine appPairs rfl _ _ 53 rfl Tryz.underlying53 eiScore w.heap.size (by rfl) OWN5.out (by rfl) (HB.out.below B5.out) (by have := HNB.out; simp; omega) hsz5 ?_))
      intro v6 w6 hown6 hb6 _
      have OWN6 := Lib.hid hown6
      have B6 := Lib.hid (below_tr B5.out hb6)
      clear hown6 hb6
      go_wp2_with fail
      go_ret
      refine ⟨_, rfl, ?_, B6.out⟩
      rw [← HE.out]
      have h := OWN6.out
      rw [← List.flatMap_append] at h
      exact own_pairs h (by simp) (by have := HNB.out; simp; omega)
    | cons x A =>
      cases B with
      | nil =>
        have HE := Lib.hid (show D ++ (x :: A) = mergeS a b by rw [← HMER.out, mergeS_nil])
        obtain ⟨na, hna⟩ : ∃ n, A.length = n := ⟨_, rfl⟩
        rw [List.length_cons, hna] at hlen HA ⊢
        have HNA := Lib.hid hna
        simp only [List.length_nil, Nat.add_zero] at hlen HB ⊢
        have hsz := hbr.size
        have ia : (0 : Int) < (na + 1 : Nat) := by omega
        clear hA hB hown hmer sA sB hbr hna
        go_wp2_with (at_builtin; go_must (refine appPairs rfl _ _ 53 rfl Tryz.underlying53 eiScore w.heap.size (by rfl) HOWN.out (by rfl) (HA.out.below HBR.out) (by have := HNA.out; simp; omega) hsz ?_))
        intro v5 w5 hown5 hb5 _
        have OWN5 := Lib.hid hown5
        have B5 := Lib.hid (below_tr HBR.out hb5)
        have hsz5 := B5.out.size
        clear hown5 hb5
        go_wp2_with (at_builtin; go_must (refine appPairs rfl _ _ 53 rfl Tryz.underlying53 eiScore w.heap.size (by rfl) OWN5.out (by rfl) (HB.out.below B5.out) (by have := HNA.out; simp; omega) hsz5 ?_))
        intro v6 w6 hown6 hb6 _
        have OWN6 := Lib.hid hown6
        have B6 := Lib.hid (below_tr B5.out hb6)
        clear hown6 hb6
        go_wp2_with fail
        go_ret
        refine ⟨_, rfl, ?_, B6.out⟩
        rw [← HE.out]
        have h := OWN6.out
        rw [← List.flatMap_cons, ← List.flatMap_append] at h
        exact own_pairs h (by simp) (by have := HNA.out; simp; omega)
      | cons y B =>
        obtain ⟨b1, o1, rfl⟩ := hA.addr (by simp)
        obtain ⟨b2, o2, rfl⟩ := hB.addr (by simp)
        obtain ⟨p, q⟩ := x
        obtain ⟨r, s⟩ := y
        obtain ⟨g1, c0, c1⟩ := hA.at (i := 0) rfl
        obtain ⟨g2, c2, c3⟩ := hB.at (i := 0) rfl
        have e0 := (hbr.cell (p := ⟨b1, o1 + 0 * 2, none⟩) g1).trans c0
        have e1 := (hbr.cell (p := ⟨b1, o1 + 0 * 2 + 1, none⟩) g1).trans c1
        have e2 := (hbr.cell (p := ⟨b2, o2 + 0 * 2, none⟩) g2).trans c2
        have e3 := (hbr.cell (p := ⟨b2, o2 + 0 * 2 + 1, none⟩) g2).trans c3
        simp only [Nat.zero_mul, Nat.add_zero] at e0 e1 e2 e3
        have hsz := hbr.size
        have k1 : b1 < wr.heap.size := by omega
        have k2 : b2 < wr.heap.size := by omega
        obtain ⟨s1, s2⟩ := allS_cons sA
        obtain ⟨s3, s4⟩ := allS_cons sB
        have HOD := Lib.hid (fun W => odder_any r s p q W (score_ok s3).1 (score_ok s3).2 (score_ok s1).1 (score_ok s1).2)
        have HS := Lib.hid (And.intro sA (And.intro sB (And.intro s2 s4)))
        obtain ⟨na, hna⟩ : ∃ n, A.length = n := ⟨_, rfl⟩
        obtain ⟨nb, hnb⟩ : ∃ n, B.length = n := ⟨_, rfl⟩
        rw [List.length_cons, hna] at hlen HA ⊢
        rw [List.length_cons, hnb] at hlen HB ⊢
        have HNA := Lib.hid hna
        have HNB := Lib.hid hnb
        have hxc : na + 1 ≤ xc := by obtain ⟨_, _, e, h1, _⟩ := HA.out; injection e with _ _ e3; subst e3; simp at h1; omega
        have hyc : nb + 1 ≤ yc := by obtain ⟨_, _, e, h1, _⟩ := HB.out; injection e with _ _ e3; subst e3; simp at h1; omega
        have ia : (0 : Int) < (na + 1 : Nat) := by omega
        have ia2 : (1 : Int) ≤ (na : Int) + 1 := by omega
        have ib2 : (1 : Int) ≤ (nb : Int) + 1 := by omega
        have ib : (0 : Int) < (nb + 1 : Nat) := by omega
        clear hA hB hown hmer sA sB hbr c0 c1 c2 c3 s1 s2 s3 s4 hna hnb
        by_cases hlt : oddI (r, s) (p, q) < 0
        · have HST := Lib.hid (show mergeS ((p, q) :: A) ((r, s) :: B) = (r, s) :: mergeS ((p, q) :: A) B by rw [mergeS, if_pos hlt])
          generalize oddI (r, s) (p, q) = R at *
          go_wp2_with fail
          refine wp_region_tail_quiet 7 (by kernel_rfl) (by kernel_rfl) ?_; simp only [List.take_succ_cons, List.take_zero, List.drop_succ_cons, List.drop_zero]; (repeat (go_big_quiet_step (fail))); refine wpQuiet_nil ?_
          go_wp2_with fail
          (with_reducible refine (HOD.out _).mono ?_)
          rintro e w4 ⟨rfl, b4⟩
          have B4 := Lib.hid (show Below wr.heap.size wr w4 from below_tr bw (b4.mono (by first | omega | (simp; done) | (simp; omega))))
          have z0 := (B4.out.cell (p := ⟨b1, o1, none⟩) k1).trans e0
          have z1 := (B4.out.cell (p := ⟨b1, o1 + 1, none⟩) k1).trans e1
          have z2 := (B4.out.cell (p := ⟨b2, o2, none⟩) k2).trans e2
          have z3 := (B4.out.cell (p := ⟨b2, o2 + 1, none⟩) k2).trans e3
          have s4 := B4.out.size
          have OWN4 := Lib.hid (own_keep HOWN.out (fun g _ hg => B4.out.block g hg))
          have l1 : b1 < w4.heap.size := by omega
          have l2 : b2 < w4.heap.size := by omega
          clear b4 e0 e1 e2 e3
          go_wp2_with fail
          go_region_held3 (fun w' => w'.cell? ⟨b2, o2, none⟩ = some (.int .i64 r) ∧ w'.cell? ⟨b2, o2 + 1, none⟩ = some (.int .i64 s)) (first | (go_simp; done) | (go_keep; done) | (refine ⟨?_, ?_⟩ <;> first | (go_simp; done) | (go_keep; done))) (first | ((refine app1_step rfl _ _ 53 rfl Tryz.underlying53 eiScore w.heap.size (by rfl) OWN4.out (by rfl) rfl (by simp [Value.oneCell']) (by omega) (by omega) ?_; intro v8 w8 hown8 hb8; have OWN8 := Lib.hid hown8; have B8 := Lib.hid hb8; have f0 := (hb8.cell (p := ⟨b2, o2, none⟩) (by omega)).trans z2; have f1 := (hb8.cell (p := ⟨b2, o2 + 1, none⟩) (by omega)).trans z3; clear hown8 hb8)))
          go_wp2_with fail
          go_roundw
          case rel =>
            refine ⟨some ⟨b1, o1, none⟩, xc, (p, q) :: A, _, yc - 1, B, D ++ [(r, s)], by rw [List.length_cons, HNA.out], by rw [← HNB.out], by rw [List.length_cons, HNA.out]; exact HA.out, HB.out.tail, ?_, ?_, ?_, HS.out.1, HS.out.2.2.2, below_tr HBR.out (below_tr (B4.out.mono hsz) B8.out)⟩
            · rw [List.length_append, List.flatMap_append]
              exact OWN8.out
            · rw [← HMER.out, HST.out, List.append_assoc]
              rfl
            · have := HNA.out; have := HNB.out; simp; omega
          case measure => simp [sliceN]
        · have HST := Lib.hid (show mergeS ((p, q) :: A) ((r, s) :: B) = (p, q) :: mergeS A ((r, s) :: B) by rw [mergeS, if_neg hlt])
          generalize oddI (r, s) (p, q) = R at *
          go_wp2_with fail
          refine wp_region_tail_quiet 7 (by kernel_rfl) (by kernel_rfl) ?_; simp only [List.take_succ_cons, List.take_zero, List.drop_succ_cons, List.drop_zero]; (repeat (go_big_quiet_step (fail))); refine wpQuiet_nil ?_
          go_wp2_with fail
          (with_reducible refine (HOD.out _).mono ?_)
          rintro e w4 ⟨rfl, b4⟩
          have B4 := Lib.hid (show Below wr.heap.size wr w4 from below_tr bw (b4.mono (by first | omega | (simp; done) | (simp; omega))))
          have z0 := (B4.out.cell (p := ⟨b1, o1, none⟩) k1).trans e0
          have z1 := (B4.out.cell (p := ⟨b1, o1 + 1, none⟩) k1).trans e1
          have z2 := (B4.out.cell (p := ⟨b2, o2, none⟩) k2).trans e2
          have z3 := (B4.out.cell (p := ⟨b2, o2 + 1, none⟩) k2).trans e3
          have s4 := B4.out.size
          have OWN4 := Lib.hid (own_keep HOWN.out (fun g _ hg => B4.out.block g hg))
          have l1 : b1 < w4.heap.size := by omega
          have l2 : b2 < w4.heap.size := by omega
          clear b4 e0 e1 e2 e3
          go_wp2_with fail
          go_region_held3 (fun w' => w'.cell? ⟨b1, o1, none⟩ = some (.int .i64 p) ∧ w'.cell? ⟨b1, o1 + 1, none⟩ = some (.int .i64 q)) (first | (go_simp; done) | (go_keep; done) | (refine ⟨?_, ?_⟩ <;> first | (go_simp; done) | (go_keep; done))) (first | ((refine app1_step rfl _ _ 53 rfl Tryz.underlying53 eiScore w.heap.size (by rfl) OWN4.out (by rfl) rfl (by simp [Value.oneCell']) (by omega) (by omega) ?_; intro v8 w8 hown8 hb8; have OWN8 := Lib.hid hown8; have B8 := Lib.hid hb8; have f0 := (hb8.cell (p := ⟨b1, o1, none⟩) (by omega)).trans z0; have f1 := (hb8.cell (p := ⟨b1, o1 + 1, none⟩) (by omega)).trans z1; clear hown8 hb8)))
          go_wp2_with fail
          go_roundw
          case rel =>
            refine ⟨_, xc - 1, A, some ⟨b2, o2, none⟩, yc, (r, s) :: B, D ++ [(p, q)], by rw [← HNA.out], by rw [List.length_cons, HNB.out], HA.out.tail, by rw [List.length_cons, HNB.out]; exact HB.out, ?_, ?_, ?_, HS.out.2.2.1, HS.out.2.1, below_tr HBR.out (below_tr (B4.out.mono hsz) B8.out)⟩
            · rw [List.length_append, List.flatMap_append]
              exact OWN8.out
            · rw [← HMER.out, HST.out, List.append_assoc]
              rfl
            · have := HNA.out; have := HNB.out; simp; omega
          case measure => simp [sliceN]
end Go.Proofs.YtgobbecpnjelmaaGreat

namespace Go.Proofs.YtgobbecpnjelmaaGreat
open Go.RowKit

theorem allS_cut {l : List (Int × Int)} (h : allS l = true) (k : Nat) : allS (l.take k) = true ∧ allS (l.drop k) = true := by
  unfold allS at *
  rw [List.all_eq_true] at *
  exact ⟨fun x hx => h x (List.mem_of_mem_take hx), List.all_eq_true.2 fun x hx => h x (List.mem_of_mem_drop hx)⟩

theorem halfS_len {l : List (Int × Int)} (h : allS l = true) : (halfS l).length = l.length := (halfS_ok _ l (Nat.le_refl _) h).1.length_eq

theorem halfS_all {l : List (Int × Int)} (h : allS l = true) : allS (halfS l) = true := allS_perm h (halfS_ok _ l (Nat.le_refl _) h).1.symm

theorem own0S (w : World) : (w.alloc (.cells #[] 32)).ownsRow w.heap.size 32 2 (.slice (some ⟨w.heap.size, 0, none⟩) 0 0) 0 [] := World.ownsRow_made w #[] 0 (Nat.le_refl _) (Nat.zero_le _) (by simp)

set_option maxRecDepth 100000 in
set_option maxHeartbeats 8000000 in
theorem ssorted_any : ∀ (m : Nat) (v : Value) (l : List (Int × Int)) (w : World), l.length ≤ m → PairsR w v l → l.length ≤ 10000 → allS l = true →
    Calls Tryz.prog 115 #[v, .func (.func 116) #[] #[]] w fun e w' => ∃ v', e = .returned v' ∧ PairsR w' v' (halfS l) ∧ Below w.heap.size w w'
  | m, v, l, w, hm, h, hl, hs => by
    by_cases h2 : l.length < 2
    · have HE := Lib.hid (show halfS l = l by unfold halfS; rw [dif_pos h2])
      obtain ⟨xa, xc, rfl⟩ := h.shape
      have HX := Lib.hid h
      obtain ⟨n, hn⟩ : ∃ n, l.length = n := ⟨_, rfl⟩
      rw [hn] at HX h2 ⊢
      have HN := Lib.hid hn
      have hn2 : (n : Int) < 2 := by omega
      clear hs h hm hl hn
      go_enter Tryz.func115, Tryz.ntmps115
      go_wp2_with (at_builtin; go_must (refine appPairs rfl _ _ 53 rfl Tryz.underlying53 eiScore w.heap.size (by rfl) (own0S w) (by rfl) (HX.out.below bw) (by have := HN.out; simp; omega) (by simp) ?_))
      intro v5 w5 hown5 hb5 _
      have OWN5 := Lib.hid hown5
      have B5 := Lib.hid hb5
      clear hown5 hb5
      go_wp2_with fail
      go_ret
      refine ⟨_, rfl, ?_, below_tr bw B5.out⟩
      rw [HE.out]
      have h := OWN5.out
      exact own_pairs h (by simp) (by have := HN.out; omega)
    · cases m with
      | zero => omega
      | succ m =>
        obtain ⟨half, hh⟩ : ∃ k, l.length / 2 = k := ⟨_, rfl⟩
        have HE := Lib.hid (show halfS l = mergeS (halfS (l.take half)) (halfS (l.drop half)) by
          rw [halfS, dif_neg h2, hh])
        obtain ⟨s1, s2⟩ := allS_cut hs half
        have HA1 := Lib.hid (halfS_all s1)
        have HA2 := Lib.hid (halfS_all s2)
        have HL := Lib.hid (show (halfS (l.take half)).length + (halfS (l.drop half)).length ≤ 100000 by rw [halfS_len s1, halfS_len s2, List.length_take, List.length_drop]; omega)
        have IH1 := Lib.hid (fun v' W (hW : PairsR W v' (l.take half)) => ssorted_any m v' (l.take half) W (by rw [List.length_take]; omega) hW (by rw [List.length_take]; omega) s1)
        have IH2 := Lib.hid (fun v' W (hW : PairsR W v' (l.drop half)) => ssorted_any m v' (l.drop half) W (by rw [List.length_drop]; omega) hW (by rw [List.length_drop]; omega) s2)
        have HMG := Lib.hid (fun va vb W (hA : PairsR W va (halfS (l.take half))) (hB : PairsR W vb (halfS (l.drop half))) => smerge_any va vb _ _ W hA hB HL.out HA1.out HA2.out)
        obtain ⟨xa, xc, rfl⟩ := h.shape
        obtain ⟨b, o, rfl⟩ := h.addr (by omega)
        have hcap : l.length ≤ xc := by obtain ⟨_, _, e, h1, _⟩ := h; injection e with _ _ e3; subst e3; exact h1
        have hcap2 : xc ≤ 9223372036854775807 := by obtain ⟨_, _, e, _, h1, _⟩ := h; injection e with _ _ e3; subst e3; exact h1
        have HX1 := Lib.hid (show PairsR w (.slice (some ⟨b, o, none⟩) half xc) (l.take half) from by
          have := h.cutAt (i := 0) (m := half) (by omega) (o' := o) (by omega) xc (by omega) hcap2
          simpa using this)
        have HX2 := Lib.hid (show PairsR w (.slice (some ⟨b, o + half * 2, none⟩) (l.length - half) (xc - half)) (l.drop half) from by
          have := h.cutAt (i := half) (m := l.length - half) (by omega) (o' := o + half * 2) rfl (xc - half) (by omega) (by omega)
          rw [List.take_of_length_le (by rw [List.length_drop]; exact Nat.le_refl _)] at this
          exact this)
        generalize halfS (l.take half) = L1 at *
        generalize halfS (l.drop half) = L2 at *
        generalize halfS l = L3 at *
        clear hs s1 s2 h hm HA1 HA2 HL
        generalize l.length = n at *
        have hn2 : (2 : Int) ≤ n := by omega
        have q1 : Int.tdiv (n : Int) 2 = (half : Int) := by rw [← hh]; rfl
        have q2 : (0 : Int) ≤ half := by omega
        have q3 : (half : Int) ≤ n := by omega
        have q4 : (half : Int) ≤ xc := by omega
        have q5 : ¬ xc = half := by omega
        have q6 : ¬ xc = 0 := by omega
        clear hh h2 hl
        go_enter Tryz.func115, Tryz.ntmps115
        go_wp2_with fail
        have P0 := Lib.hid True.intro
        go_region_held3 (fun w' => True) (first | (go_simp; done) | (go_keep; done)) (first | (first | (go_at_call 115; clear P0; have P1 := Lib.hid True.intro; (with_reducible refine (IH1.out _ _ (HX1.out.below bw)).mono ?_); rintro e w4 ⟨v4, rfl, p4, b4⟩; have B4 := Lib.hid (show Below w.heap.size w w4 from below_tr bw (b4.mono (by first | omega | (simp; done) | (simp; omega)))); have P4 := Lib.hid p4; obtain ⟨a4, c4, rfl⟩ := p4.shape; clear b4 p4) | (go_at_call 115; clear P1; (with_reducible refine (IH2.out _ _ (HX2.out.below (bx B4.out))).mono ?_); rintro e w5 ⟨v5, rfl, p5, b5⟩; have s5 := B4.out.size; have B5 := Lib.hid (show Below w.heap.size w w5 from below_tr (bx B4.out) (b5.mono (by first | omega | (simp; done) | (simp; omega)))); have P5 := Lib.hid p5; have P4 := Lib.hid ((P4.out.below bw).below b5); obtain ⟨a5, c5, rfl⟩ := p5.shape; clear b5 p5) | (go_at_call 136; (with_reducible refine (HMG.out _ _ _ (P4.out.below bw) (P5.out.below bw)).mono ?_); rintro e w6 ⟨v6, rfl, p6, b6⟩; have s6 := B5.out.size; have B6 := Lib.hid (show Below w.heap.size w w6 from below_tr (bx B5.out) (b6.mono (by first | omega | (simp; done) | (simp; omega)))); have P6 := Lib.hid p6; clear b6 p6)))
        go_wp2_with fail
        go_ret
        exact ⟨_, rfl, by rw [HE.out]; exact P6.out, B6.out⟩
end Go.Proofs.YtgobbecpnjelmaaGreat
