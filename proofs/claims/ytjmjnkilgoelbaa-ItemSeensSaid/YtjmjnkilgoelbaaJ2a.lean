/-
  ItemQ: Plain laws of layer 22: which ask any bytes are.
  ItemH: Walk of the reference's GetAsk.
  ItemI: Walks of the reference's SameAsk, and of the law's stands.
-/
import Derived.Test.YtjmjnkilgoelbaaKItemF
import Derived.Test.YtjmjnkilgoelbaaJ0d
import Derived.Test.YtjmjnkilgoelbaaJ0c
namespace Go.Proofs.Ytjmjnkilgoelbaa
open Go.RowKit

theorem rdInts_le {l : List Int} (hb : AllB l) {a : Nat} (ha : a ≤ l.length) (most : Int) : (rdInts l a most).2.1 ≤ l.length := by
  unfold rdInts
  by_cases h2 : (rdN l a most).2.2 = 0
  · rw [if_neg (by omega)]
    exact rdIs_le l hb a ha _ _ _ ((rdN_facts l hb a most).2 h2).2.1
  · rw [if_pos h2]
    exact ha

theorem rdInts'_le {l : List Int} (hb : AllB l) {a : Nat} (ha : a ≤ l.length) (e most : Int) : (rdInts' l a e most).2.1 ≤ l.length := by
  unfold rdInts'
  split
  · exact rdInts_le hb ha most
  · exact ha

theorem gotInts {l : List Int} (hb : AllB l) {a : Nat} {e most : Int} (h : (rdInts' l a e most).2.2 = 0) : e = 0 ∧ Got l a (rdInts' l a e most).2.1 (putsInts (rdInts' l a e most).1) := by
  by_cases he : e = 0
  · subst he
    refine ⟨rfl, ?_⟩
    rw [rdInts', if_pos rfl] at h ⊢
    unfold rdInts at h ⊢
    by_cases h1 : (rdN l a most).2.2 = 0
    · rw [if_neg (by omega)] at h ⊢
      have hg := gotN (l := l) hb (a := a) (e := 0) (most := most) (by rw [rdN', if_pos rfl]; exact h1)
      rw [rdN', if_pos rfl] at hg
      obtain ⟨_, hg, _⟩ := hg
      obtain ⟨m, e1, e2, e3, e4, e5⟩ := rdIs_ok l hb a _ _ [] hg.2.1 h
      rw [List.nil_append] at e2
      rw [e2, putsInts, e1]
      exact hg.trans ⟨e3, e4, e5⟩
    · rw [if_pos h1] at h; exact absurd h h1
  · rw [rdInts', if_neg he] at h
    exact absurd h he

abbrev AskT := Int × Int × List Int × Int × Int
def askT0 : AskT := (0, 0, [], 0, 0)
def askTB (t : AskT) : Bool := askB t.1 t.2.1 t.2.2.2.1 t.2.2.2.2 t.2.2.1
def askTW (t : AskT) : List Int := askBytes t.1 t.2.1 t.2.2.2.1 t.2.2.2.2 t.2.2.1

def optN (c : Bool) (l : List Int) (a : Nat) (e : Int) : Nat × Nat × Int := if c = true then rdN' l a e 1099511627776 else (0, a, e)
def optX (c : Bool) (l : List Int) (a : Nat) (e : Int) : List Int × Nat × Int := if c = true then rdInts' l a e 8 else ([], a, e)

theorem optN_le {l : List Int} (hb : AllB l) {a : Nat} (ha : a ≤ l.length) (c : Bool) (e : Int) : (optN c l a e).2.1 ≤ l.length := by
  unfold optN
  split
  · exact rdN'_le hb ha _ _
  · exact ha

theorem optX_le {l : List Int} (hb : AllB l) {a : Nat} (ha : a ≤ l.length) (c : Bool) (e : Int) : (optX c l a e).2.1 ≤ l.length := by
  unfold optX
  split
  · exact rdInts'_le hb ha _ _
  · exact ha

theorem optN_got {l : List Int} (hb : AllB l) {a : Nat} (ha : a ≤ l.length) {c : Bool} {e : Int} (h : (optN c l a e).2.2 = 0) : e = 0 ∧ Got l a (optN c l a e).2.1 (if c = true then putsU (optN c l a e).1 else []) := by
  unfold optN at h ⊢
  cases c with
  | true =>
    simp only [if_pos] at h ⊢
    obtain ⟨h1, h2, _⟩ := gotN hb h
    exact ⟨h1, h2⟩
  | false =>
    simp only [Bool.false_eq_true, if_false] at h ⊢
    exact ⟨h, Got.refl ha⟩

theorem optX_got {l : List Int} (hb : AllB l) {a : Nat} (ha : a ≤ l.length) {c : Bool} {e : Int} (h : (optX c l a e).2.2 = 0) : e = 0 ∧ Got l a (optX c l a e).2.1 (if c = true then putsInts (optX c l a e).1 else []) := by
  unfold optX at h ⊢
  cases c with
  | true =>
    simp only [if_pos] at h ⊢
    exact gotInts hb h
  | false =>
    simp only [Bool.false_eq_true, if_false] at h ⊢
    exact ⟨h, Got.refl ha⟩

/-- What is read of an ask behind its kind. -/
def gAk (K : Nat) (l : List Int) (a : Nat) (e : Int) : AskT × Nat × Int :=
  (((K : Int), ((optN (decide (K = 1)) l a e).1 : Int),
    (optX (decide (K = 1 ∨ K = 2 ∨ K = 7)) l (optN (decide (K = 1)) l a e).2.1 (optN (decide (K = 1)) l a e).2.2).1,
    ((optN (decide (K = 3 ∨ K = 4)) l (optX (decide (K = 1 ∨ K = 2 ∨ K = 7)) l (optN (decide (K = 1)) l a e).2.1 (optN (decide (K = 1)) l a e).2.2).2.1 (optX (decide (K = 1 ∨ K = 2 ∨ K = 7)) l (optN (decide (K = 1)) l a e).2.1 (optN (decide (K = 1)) l a e).2.2).2.2).1 : Int),
    ((optN (decide (K = 3)) l (optN (decide (K = 3 ∨ K = 4)) l (optX (decide (K = 1 ∨ K = 2 ∨ K = 7)) l (optN (decide (K = 1)) l a e).2.1 (optN (decide (K = 1)) l a e).2.2).2.1 (optX (decide (K = 1 ∨ K = 2 ∨ K = 7)) l (optN (decide (K = 1)) l a e).2.1 (optN (decide (K = 1)) l a e).2.2).2.2).2.1 (optN (decide (K = 3 ∨ K = 4)) l (optX (decide (K = 1 ∨ K = 2 ∨ K = 7)) l (optN (decide (K = 1)) l a e).2.1 (optN (decide (K = 1)) l a e).2.2).2.1 (optX (decide (K = 1 ∨ K = 2 ∨ K = 7)) l (optN (decide (K = 1)) l a e).2.1 (optN (decide (K = 1)) l a e).2.2).2.2).2.2).1 : Int)),
   (optN (decide (K = 3)) l (optN (decide (K = 3 ∨ K = 4)) l (optX (decide (K = 1 ∨ K = 2 ∨ K = 7)) l (optN (decide (K = 1)) l a e).2.1 (optN (decide (K = 1)) l a e).2.2).2.1 (optX (decide (K = 1 ∨ K = 2 ∨ K = 7)) l (optN (decide (K = 1)) l a e).2.1 (optN (decide (K = 1)) l a e).2.2).2.2).2.1 (optN (decide (K = 3 ∨ K = 4)) l (optX (decide (K = 1 ∨ K = 2 ∨ K = 7)) l (optN (decide (K = 1)) l a e).2.1 (optN (decide (K = 1)) l a e).2.2).2.1 (optX (decide (K = 1 ∨ K = 2 ∨ K = 7)) l (optN (decide (K = 1)) l a e).2.1 (optN (decide (K = 1)) l a e).2.2).2.2).2.2).2)

theorem gAk_of {K : Nat} {l : List Int} {a : Nat} {e : Int} {r2 r4 r5 : Nat × Nat × Int} {r3 : List Int × Nat × Int} (h2 : optN (decide (K = 1)) l a e = r2) (h3 : optX (decide (K = 1 ∨ K = 2 ∨ K = 7)) l r2.2.1 r2.2.2 = r3)
    (h4 : optN (decide (K = 3 ∨ K = 4)) l r3.2.1 r3.2.2 = r4) (h5 : optN (decide (K = 3)) l r4.2.1 r4.2.2 = r5) : gAk K l a e = (((K : Int), (r2.1 : Int), r3.1, (r4.1 : Int), (r5.1 : Int)), r5.2) := by
  subst h2 h3 h4 h5
  rfl

theorem gAk_le {K : Nat} {l : List Int} (hb : AllB l) {a : Nat} (ha : a ≤ l.length) (e : Int) : (gAk K l a e).2.1 ≤ l.length :=
  optN_le hb (optN_le hb (optX_le hb (optN_le hb ha _ _) _ _) _ _) _ _

theorem gAk_got {K : Nat} {l : List Int} (hb : AllB l) {a : Nat} (ha : a ≤ l.length) {e : Int} (h : (gAk K l a e).2.2 = 0) : e = 0 ∧ Got l a (gAk K l a e).2.1
    ((if K = 1 then putsU (gAk K l a e).1.2.1.toNat else []) ++ (if K = 1 ∨ K = 2 ∨ K = 7 then putsInts (gAk K l a e).1.2.2.1 else []) ++ (if K = 3 ∨ K = 4 then putsU (gAk K l a e).1.2.2.2.1.toNat else []) ++ (if K = 3 then putsU (gAk K l a e).1.2.2.2.2.toNat else [])) := by
  obtain ⟨r2, h2⟩ : ∃ r, optN (decide (K = 1)) l a e = r := ⟨_, rfl⟩
  obtain ⟨r3, h3⟩ : ∃ r, optX (decide (K = 1 ∨ K = 2 ∨ K = 7)) l r2.2.1 r2.2.2 = r := ⟨_, rfl⟩
  obtain ⟨r4, h4⟩ : ∃ r, optN (decide (K = 3 ∨ K = 4)) l r3.2.1 r3.2.2 = r := ⟨_, rfl⟩
  obtain ⟨r5, h5⟩ : ∃ r, optN (decide (K = 3)) l r4.2.1 r4.2.2 = r := ⟨_, rfl⟩
  have a2 := optN_le hb ha (decide (K = 1)) e
  rw [h2] at a2
  have a3 := optX_le hb a2 (decide (K = 1 ∨ K = 2 ∨ K = 7)) r2.2.2
  rw [h3] at a3
  have a4 := optN_le hb a3 (decide (K = 3 ∨ K = 4)) r3.2.2
  rw [h4] at a4
  rw [gAk_of h2 h3 h4 h5] at h ⊢
  have k5 := optN_got hb a4 (c := decide (K = 3)) (e := r4.2.2) (by rw [h5]; exact h)
  rw [h5] at k5
  have k4 := optN_got hb a3 (c := decide (K = 3 ∨ K = 4)) (e := r3.2.2) (by rw [h4]; exact k5.1)
  rw [h4] at k4
  have k3 := optX_got hb a2 (c := decide (K = 1 ∨ K = 2 ∨ K = 7)) (e := r2.2.2) (by rw [h3]; exact k4.1)
  rw [h3] at k3
  have k2 := optN_got hb ha (c := decide (K = 1)) (e := e) (by rw [h2]; exact k3.1)
  rw [h2] at k2
  have hg := ((k2.2.trans k3.2).trans k4.2).trans k5.2
  simp only [decide_eq_true_eq] at hg
  exact ⟨k2.1, by simpa using hg⟩

/-- Which ask any bytes are, from a place on. -/
def getAsk (l : List Int) (a : Nat) (e : Int) : AskT × Nat × Int :=
  if 1 ≤ (rdN' l a e 1099511627776).1 ∧ (rdN' l a e 1099511627776).1 ≤ 7 then
    ((if finE (gAk (rdN' l a e 1099511627776).1 l (rdN' l a e 1099511627776).2.1 (rdN' l a e 1099511627776).2.2).2.2 (askTB (gAk (rdN' l a e 1099511627776).1 l (rdN' l a e 1099511627776).2.1 (rdN' l a e 1099511627776).2.2).1) = 0
        then (gAk (rdN' l a e 1099511627776).1 l (rdN' l a e 1099511627776).2.1 (rdN' l a e 1099511627776).2.2).1 else askT0),
      (gAk (rdN' l a e 1099511627776).1 l (rdN' l a e 1099511627776).2.1 (rdN' l a e 1099511627776).2.2).2.1,
      finE (gAk (rdN' l a e 1099511627776).1 l (rdN' l a e 1099511627776).2.1 (rdN' l a e 1099511627776).2.2).2.2 (askTB (gAk (rdN' l a e 1099511627776).1 l (rdN' l a e 1099511627776).2.1 (rdN' l a e 1099511627776).2.2).1))
  else (askT0, (rdN' l a e 1099511627776).2.1, finE (rdN' l a e 1099511627776).2.2 false)

theorem getAsk_le {l : List Int} (hb : AllB l) {a : Nat} (ha : a ≤ l.length) (e : Int) : (getAsk l a e).2.1 ≤ l.length := by
  unfold getAsk
  split
  · exact gAk_le hb (rdN'_le hb ha _ _) _
  · exact rdN'_le hb ha _ _

theorem getAsk_yes {l : List Int} {a : Nat} {e : Int} {K a1 : Nat} {e1 : Int} {t : AskT} {a2 : Nat} {e2 : Int} (h : rdN' l a e 1099511627776 = (K, a1, e1)) (hk : 1 ≤ K ∧ K ≤ 7) (hg : gAk K l a1 e1 = (t, a2, e2)) :
    getAsk l a e = (if finE e2 (askTB t) = 0 then t else askT0, a2, finE e2 (askTB t)) := by
  unfold getAsk
  rw [h]
  dsimp only
  rw [if_pos hk, hg]

theorem getAsk_no {l : List Int} {a : Nat} {e : Int} {K a1 : Nat} {e1 : Int} (h : rdN' l a e 1099511627776 = (K, a1, e1)) (hk : ¬ (1 ≤ K ∧ K ≤ 7)) : getAsk l a e = (askT0, a1, finE e1 false) := by
  unfold getAsk
  rw [h]
  dsimp only
  rw [if_neg hk]

theorem getAsk_got {l : List Int} (hb : AllB l) {a : Nat} (ha : a ≤ l.length) {e : Int} (h : (getAsk l a e).2.2 = 0) : Got l a (getAsk l a e).2.1 (askTW (getAsk l a e).1) := by
  obtain ⟨r1, h1⟩ : ∃ r, rdN' l a e 1099511627776 = r := ⟨_, rfl⟩
  obtain ⟨K, a1, e1⟩ := r1
  have l1 := rdN'_le hb ha e 1099511627776
  rw [h1] at l1
  by_cases hk : 1 ≤ K ∧ K ≤ 7
  · obtain ⟨g, hg⟩ : ∃ r, gAk K l a1 e1 = r := ⟨_, rfl⟩
    obtain ⟨t, a2, e2⟩ := g
    rw [getAsk_yes h1 hk hg] at h ⊢
    dsimp only at h ⊢
    obtain ⟨f1, f2⟩ := finE_zero h
    rw [if_pos h]
    have k2 := gAk_got hb l1 (K := K) (e := e1) (by rw [hg]; exact f1)
    have k1 := gotN hb (a := a) (e := e) (most := 1099511627776) (by rw [h1]; exact k2.1)
    rw [hg] at k2
    rw [h1] at k1
    have ht : t.1 = (K : Int) := by
      have := congrArg (fun z => z.1.1) hg
      exact this.symm
    have hh := k1.2.1.trans k2.2
    have hw : askTW t = putsU K ++ ((if K = 1 then putsU t.2.1.toNat else []) ++ (if K = 1 ∨ K = 2 ∨ K = 7 then putsInts t.2.2.1 else []) ++ (if K = 3 ∨ K = 4 then putsU t.2.2.2.1.toNat else []) ++ (if K = 3 then putsU t.2.2.2.2.toNat else [])) := by
      unfold askTW askBytes
      rw [if_pos (show askB t.1 t.2.1 t.2.2.2.1 t.2.2.2.2 t.2.2.1 = true from f2), ht, Int.toNat_natCast]
      have c1 : ((K : Int) = 1 ↔ K = 1) := by omega
      have c2 : ((K : Int) = 2 ↔ K = 2) := by omega
      have c3 : ((K : Int) = 3 ↔ K = 3) := by omega
      have c4 : ((K : Int) = 4 ↔ K = 4) := by omega
      have c7 : ((K : Int) = 7 ↔ K = 7) := by omega
      simp only [c1, c2, c3, c4, c7, List.append_assoc]
    rw [hw]
    exact hh
  · rw [getAsk_no h1 hk] at h
    have := (finE_zero h).2
    cases this
end Go.Proofs.Ytjmjnkilgoelbaa

namespace Go.Proofs.Ytjmjnkilgoelbaa
open Go.RowKit

theorem Ints.again {k : IntKind} {w0 m w : World} {v : Value} {l : List Int} (_ : Ints k w0 v l) (h : Ints k m v l) (b : Below m.heap.size m w) : Ints k w v l := h.below b

def RefA (w : World) (vr : Value) (r : AskT × Nat × Int) (e : Ending) (w' : World) : Prop :=
  ∃ vx, e = .returned (.tuple #[.agg #[vr, .int .i64 r.2.1, .int .i64 r.2.2], .agg #[.int .i64 r.1.1, .int .i64 r.1.2.1, vx, .int .i64 r.1.2.2.2.1, .int .i64 r.1.2.2.2.2]]) ∧ Ints .i64 w' vx r.1.2.2.1 ∧ Below w.heap.size w w'

theorem rdN_ref {l : List Int} {a : Nat} {e0 : Int} (hb : AllB l) (ha : a ≤ l.length) (hl : l.length ≤ 100000) (most : Int) (hm : Ok64 most) (n a' : Nat) (e' : Int) (hr : rdN' l a e0 most = (n, a', e')) (v : Value) (w : World) (h : Ints .u8 w v l) :
    Calls Try.prog 98 #[.agg #[v, .int .i64 a, .int .i64 e0], .int .i64 most] w fun e w' => e = .returned (.tuple #[.agg #[v, .int .i64 a', .int .i64 e'], .int .i64 n]) ∧ Below w.heap.size w w' := by
  have := rReadN_all v l a e0 most w h hb ha hl hm
  rw [hr] at this
  exact this

theorem rdInts_ref {l : List Int} {a : Nat} {e0 : Int} (hb : AllB l) (ha : a ≤ l.length) (hl : l.length ≤ 100000) (most : Int) (hm : Ok64 most) (x : List Int) (a' : Nat) (e' : Int) (hr : rdInts' l a e0 most = (x, a', e')) (v : Value) (w : World) (h : Ints .u8 w v l) :
    Calls Try.prog 109 #[.agg #[v, .int .i64 a, .int .i64 e0], .int .i64 most] w fun e w' => ∃ v', e = .returned (.tuple #[.agg #[v, .int .i64 a', .int .i64 e'], v']) ∧ Ints .i64 w' v' x ∧ Fresh w.heap.size v' ∧ Below w.heap.size w w' := by
  have := rReadInts_all v l a e0 most w h hb ha hl hm
  rw [hr] at this
  exact this.mono fun e w' ⟨v', ⟨h1, h2⟩, h3, h4⟩ => ⟨v', h1, h3, h4, h2⟩

theorem finE_true (e : Int) : finE e true = e := by unfold finE; split <;> simp_all
theorem finE_twice (e : Int) : finE (finE e false) false = finE e false := by
  unfold finE
  by_cases h : e = 0
  · subst h; rfl
  · rw [if_neg h, if_neg h]

end Go.Proofs.Ytjmjnkilgoelbaa

namespace Go.Proofs.Ytjmjnkilgoelbaa
open Go.RowKit

set_option maxRecDepth 100000 in
set_option maxHeartbeats 4000000 in
theorem rsameAsk_eq (k id n m : Int) (x : List Int) (va vb : Value) (w : World) (ha : Ints .i64 w va x) (hb : Ints .i64 w vb x) :
    Calls Try.prog 41 #[.agg #[.int .i64 k, .int .i64 id, va, .int .i64 n, .int .i64 m], .agg #[.int .i64 k, .int .i64 id, vb, .int .i64 n, .int .i64 m]] w fun e w' => e = .returned (.bool true) ∧ Below w.heap.size w w' := by
  have HA := Lib.hid ha
  have HB := Lib.hid hb
  obtain ⟨aa, ac, rfl⟩ := ha.shape
  obtain ⟨ba, bc, rfl⟩ := hb.shape
  have HS := Lib.hid (fun W (h1 : Ints .i64 W (.slice aa x.length ac) x) (h2 : Ints .i64 W (.slice ba x.length bc) x) => same_any _ _ x x W h1 h2)
  rw [show decide (x = x) = true from decide_eq_true rfl] at HS
  clear ha hb
  generalize x.length = len at *
  go_enter Try.func41, Try.ntmps41
  go_wp2_with fail
  (with_reducible refine (HS.out _ (HA.out.below (by (repeat (first | with_reducible exact Below.refl _ _ | with_reducible refine Bs ?_ | with_reducible refine Ba ?_ | with_reducible refine Bd ?_ | with_reducible refine Bn ?_)))) (HB.out.below (by (repeat (first | with_reducible exact Below.refl _ _ | with_reducible refine Bs ?_ | with_reducible refine Ba ?_ | with_reducible refine Bd ?_ | with_reducible refine Bn ?_))))).mono ?_)
  rintro e w1 ⟨rfl, d, rfl⟩
  go_wp2_with fail
  go_ret
  exact ⟨rfl, by (repeat (first | with_reducible exact Below.refl _ _ | with_reducible refine Bs ?_ | with_reducible refine Ba ?_ | with_reducible refine Bd ?_ | with_reducible refine Bn ?_))⟩

set_option maxRecDepth 100000 in
set_option maxHeartbeats 4000000 in
theorem stands_eq {w : World} {R : Nat} {v : Value} {l : List Int} {a : Nat} {e0 : Int} (h : Rd w R v l a e0) (ad : Option Addr) (n c : Nat) :
    Calls Try.prog 34 #[.pointer (some ⟨R, 0, none⟩), .agg #[.slice ad n c, .int .i64 a, .int .i64 e0]] w fun e w' => e = .returned (.bool true) ∧ Below w.heap.size w w' := by
  have H := Lib.hid h
  clear h
  go_enter Try.func34, Try.ntmps34
  go_wp2_with fail
  refine wp_region_held_drew (S := fun w' => w'.cell? ⟨w.heap.size, 0, none⟩ = some (.slice ad n c) ∧ w'.cell? ⟨w.heap.size, 1, none⟩ = some (.int .i64 a) ∧ w'.cell? ⟨w.heap.size, 2, none⟩ = some (.int .i64 e0)) (by kernel_rfl) ?_ (fun hHeld => ?_); (focus ((try dsimp only); first | trivial | (and_intros <;> first | (go_simp; done) | (go_keep; done)))); (refine lexTk 0 (v := ?_) rfl hHeld ?_ (by kernel_rfl) (fun _ _ _ h => h) ?_ ?_; rotate_left 2; (focus rfl); (focus (intro w hSw; (try dsimp only at hSw); first | (go_simp; done) | (go_simp; with_reducible rfl)))); (try simp only [Act.put, List.setIfInBounds_toArray, List.set_cons_zero, List.set_cons_succ]); (refine lexTk 2 (v := ?_) rfl hHeld ?_ (by kernel_rfl) (fun _ _ _ h => h) ?_ ?_; rotate_left 2; (focus rfl); (focus (intro w hSw; (try dsimp only at hSw); first | (go_simp; done) | (go_simp; with_reducible rfl)))); (try simp only [Act.put, List.setIfInBounds_toArray, List.set_cons_zero, List.set_cons_succ]); (refine lexTk 3 (v := ?_) rfl hHeld ?_ (by kernel_rfl) (fun _ _ _ h => h) ?_ ?_; rotate_left 2; (focus rfl); (focus (intro w hSw; (try dsimp only at hSw); first | (go_simp; done) | (go_simp; with_reducible rfl)))); (try simp only [Act.put, List.setIfInBounds_toArray, List.set_cons_zero, List.set_cons_succ]); refine lexHv 1 rfl ?_ (by kernel_rfl); (intro K hK); (go_simp; (go_at_call 91; (with_reducible refine (at_any (H.out.below (by (repeat (first | with_reducible exact Below.refl _ _ | with_reducible refine Bs ?_ | with_reducible refine Ba ?_ | with_reducible refine Bd ?_ | with_reducible refine Bn ?_))))).mono ?_); rintro e w1 ⟨rfl, rfl⟩); (try go_wp2_with fail)); refine hK.out _ _ ?_ ?_; (focus ((try dsimp only); first | trivial | (and_intros <;> first | (go_simp; done) | (go_keep; done)))); (clear hHeld hK K); (intro hHeld); (try simp only [Act.put, List.setIfInBounds_toArray, List.set_cons_zero, List.set_cons_succ]); (refine lexTk 4 (v := ?_) rfl hHeld ?_ (by kernel_rfl) (fun _ _ _ h => h) ?_ ?_; rotate_left 2; (focus rfl); (focus (intro w hSw; (try dsimp only at hSw); first | (go_simp; done) | (go_simp; with_reducible rfl)))); (try simp only [Act.put, List.setIfInBounds_toArray, List.set_cons_zero, List.set_cons_succ]); (refine lexTk 5 (v := ?_) rfl hHeld ?_ (by kernel_rfl) (fun _ _ _ h => h) ?_ ?_; rotate_left 2; (focus rfl); (focus (intro w hSw; (try dsimp only at hSw); first | (go_simp; done) | (go_simp; with_reducible rfl)))); (try simp only [Act.put, List.setIfInBounds_toArray, List.set_cons_zero, List.set_cons_succ]); (first | (refine lexTk 6 (v := ?_) rfl hHeld ?_ (by kernel_rfl) (fun _ _ _ h => h) ?_ ?_; rotate_left 2; (focus rfl); (focus (intro w hSw; (try dsimp only at hSw); first | (go_simp; done) | (go_simp; with_reducible rfl)))) | refine lexSk 6 rfl hHeld ?_ (by kernel_rfl) (fun _ _ _ h => h) (by rfl)); (try simp only [Act.put, List.setIfInBounds_toArray, List.set_cons_zero, List.set_cons_succ]); (first | (refine lexTk 8 (v := ?_) rfl hHeld ?_ (by kernel_rfl) (fun _ _ _ h => h) ?_ ?_; rotate_left 2; (focus rfl); (focus (intro w hSw; (try dsimp only at hSw); first | (go_simp; done) | (go_simp; with_reducible rfl)))) | refine lexSk 8 rfl hHeld ?_ (by kernel_rfl) (fun _ _ _ h => h) (by rfl)); (try simp only [Act.put, List.setIfInBounds_toArray, List.set_cons_zero, List.set_cons_succ]); (first | (refine lexTk 9 (v := ?_) rfl hHeld ?_ (by kernel_rfl) (fun _ _ _ h => h) ?_ ?_; rotate_left 2; (focus rfl); (focus (intro w hSw; (try dsimp only at hSw); first | (go_simp; done) | (go_simp; with_reducible rfl)))) | refine lexSk 9 rfl hHeld ?_ (by kernel_rfl) (fun _ _ _ h => h) (by rfl)); (try simp only [Act.put, List.setIfInBounds_toArray, List.set_cons_zero, List.set_cons_succ]); refine lexHv 7 rfl ?_ (by kernel_rfl); (intro K hK); (go_simp; (go_at_call 90; (with_reducible refine (err_any (H.out.below (by (repeat (first | with_reducible exact Below.refl _ _ | with_reducible refine Bs ?_ | with_reducible refine Ba ?_ | with_reducible refine Bd ?_ | with_reducible refine Bn ?_))))).mono ?_); rintro e w1 ⟨rfl, rfl⟩); (try go_wp2_with fail)); refine hK.out _ _ ?_ ?_; (focus ((try dsimp only); first | trivial | (and_intros <;> first | (go_simp; done) | (go_keep; done)))); (clear hHeld hK K); (intro hHeld); (try simp only [Act.put, List.setIfInBounds_toArray, List.set_cons_zero, List.set_cons_succ]); (first | (refine lexTk 10 (v := ?_) rfl hHeld ?_ (by kernel_rfl) (fun _ _ _ h => h) ?_ ?_; rotate_left 2; (focus rfl); (focus (intro w hSw; (try dsimp only at hSw); first | (go_simp; done) | (go_simp; with_reducible rfl)))) | refine lexSk 10 rfl hHeld ?_ (by kernel_rfl) (fun _ _ _ h => h) (by rfl)); (try simp only [Act.put, List.setIfInBounds_toArray, List.set_cons_zero, List.set_cons_succ]); (refine lexTk 11 (v := ?_) rfl hHeld ?_ (by kernel_rfl) (fun _ _ _ h => h) ?_ ?_; rotate_left 2; (focus rfl); (focus (intro w hSw; (try dsimp only at hSw); first | (go_simp; done) | (go_simp; with_reducible rfl)))); (try simp only [Act.put, List.setIfInBounds_toArray, List.set_cons_zero, List.set_cons_succ]); (refine lexTk 12 (v := ?_) rfl hHeld ?_ (by kernel_rfl) (fun _ _ _ h => h) ?_ ?_; rotate_left 2; (focus rfl); (focus (intro w hSw; (try dsimp only at hSw); first | (go_simp; done) | (go_simp; with_reducible rfl)))); (try simp only [Act.put, List.setIfInBounds_toArray, List.set_cons_zero, List.set_cons_succ]); refine wpAnyH_done (by kernel_rfl) ?_ _
  go_wp2_with fail
  go_ret
  exact ⟨rfl, by (repeat (first | with_reducible exact Below.refl _ _ | with_reducible refine Bs ?_ | with_reducible refine Ba ?_ | with_reducible refine Bd ?_ | with_reducible refine Bn ?_))⟩
end Go.Proofs.Ytjmjnkilgoelbaa
