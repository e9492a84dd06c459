/-
  Walk of wide.word: a number by at least so many digits.
-/
import Derived.Test.YticpmcghdoiceaaWideC
import Derived.Lib.SliceRun
import Derived.Laws.BytesArg
import Derived.RegionTactic
import Derived.Laws.OwnMore
namespace Go.Proofs.Yticpmcghdoiceaa
open Go.RowKit

/-- The digits of a number, the least first, so many at least (r), with fuel. -/
def wordL : Nat → Nat → Nat → List Int
  | 0, _, _ => []
  | f + 1, n, r => if n = 0 ∧ r = 0 then [] else (48 + ((n % 10 : Nat) : Int)) :: wordL f (n / 10) (r - 1)

theorem wordL_len : ∀ (f n r : Nat), (wordL f n r).length ≤ f := by
  intro f
  induction f with
  | zero => intro n r; simp [wordL]
  | succ f ih =>
    intro n r
    rw [wordL]
    split
    · simp
    · have := ih (n / 10) (r - 1); simp; omega

theorem eiU8w : EI Try.prog 5 (.int .u8 0) 1 1 := .of (by kernel_rfl) rfl (by decide) (by decide)

/-- A row of bytes of the call's own. -/
def OwnW (w : World) (base : Nat) (v : Value) (l : List Int) : Prop := w.ownsRow base 5 1 v l.length (l.map (Value.int .u8))

def sliceLen : Value → Nat | .slice _ n _ => n | _ => 0

theorem ownW_shape {w : World} {base : Nat} {v : Value} {l : List Int} (h : OwnW w base v l) : ∃ a c, v = .slice a l.length c ∧ l.length ≤ c ∧ c ≤ 9223372036854775807 := by
  rcases h.2 with ⟨rfl, h0⟩ | ⟨g, cap, cur, rfl, _, _, h1, h2, _⟩
  · exact ⟨none, 0, by rw [h0], by omega, by omega⟩
  · exact ⟨_, _, rfl, h1, by simpa [maxLen] using h2⟩

set_option maxRecDepth 100000 in
theorem Ints.stringW {w : World} {a : Option Addr} {n c : Nat} {l : List Int} (h : Ints .u8 w (.slice a n c) l) :
    (convert 90 9 (.slice a n c)).run Try.prog w = .ok (.string (strOfNums l)) w := by
  obtain ⟨a', c', e, _, _, _, h4⟩ := h
  injection e with e1 e2 e3
  subst e1 e2 e3
  rcases Nat.eq_zero_or_pos l.length with h0 | h0
  · obtain rfl := List.eq_nil_of_length_eq_zero h0
    rw [run_convert_bytes_string w _ _ _ _ _ _ Try.underlying90 Try.underlying5 Try.underlying9]
    cases a <;> simp [Conv.bytesToString, loadCells]
    all_goals rfl
  · obtain ⟨x, hx⟩ := getElem?_ex h0
    obtain ⟨b, o, rfl, _, _⟩ := h4 0 x hx
    refine run_convert_bytes_arg w _ _ Try.underlying90 Try.underlying5 b o l.length _ l rfl (fun i hi => ?_) _ Try.underlying9
    obtain ⟨y, hy⟩ := getElem?_ex hi
    obtain ⟨b', o', e, _, hc⟩ := h4 i y hy
    cases e
    rw [hc]
    simp [List.getD, hy]

theorem wordL_zero : ∀ f, wordL f 0 0 = [] := by
  intro f
  cases f <;> simp [wordL]

theorem turned_zero (l : List Int) (j : Nat) (hj : j < l.length) : (if j < 0 ∨ l.length ≤ j + 0 then l.getD (l.length - 1 - j) 0 else l.getD j 0) = l.getD j 0 := if_neg (by omega)

/-- Turned so far: the first i and the last i places hold what the other end held. -/
def turnedAt (l : List Int) (i j : Nat) : Int := if j < i ∨ l.length ≤ j + i then l.getD (l.length - 1 - j) 0 else l.getD j 0

theorem turned_step {l cur : List Int} {p q : Nat} {x y : Int} (hpq : p < q) (hql : q < l.length) (hq : (l.length : Int) - 1 - p = q) (hcl : cur.length = l.length) (hc : ∀ j, j < l.length → cur[j]? = some (turnedAt l p j)) (hx : cur[p]? = some x) (hy : cur[q]? = some y) :
    ∀ j, j < l.length → ((cur.set p y).set q x)[j]? = some (turnedAt l (p + 1) j) := by
  intro j hj
  have ex : x = l.getD p 0 := by
    have := hc p (by omega)
    rw [hx, turnedAt, if_neg (by omega)] at this
    exact Option.some.inj this
  have ey : y = l.getD q 0 := by
    have := hc q (by omega)
    rw [hy, turnedAt, if_neg (by omega)] at this
    exact Option.some.inj this
  rw [List.getElem?_set, List.getElem?_set]
  by_cases h1 : q = j
  · subst h1
    rw [if_pos rfl, if_pos (by simp; omega), turnedAt, if_pos (by omega), ex, show l.length - 1 - q = p by omega]
  · rw [if_neg h1]
    by_cases h2 : p = j
    · subst h2
      rw [if_pos rfl, if_pos (by omega), turnedAt, if_pos (by omega), ey, show l.length - 1 - p = q by omega]
    · rw [if_neg h2, hc j hj, turnedAt, turnedAt]
      by_cases h3 : j < p ∨ l.length ≤ j + p
      · rw [if_pos h3, if_pos (by omega)]
      · rw [if_neg h3, if_neg (by omega)]

theorem turned_end {l cur : List Int} {p : Nat} (hp : ¬ (p : Int) < (l.length : Int) - 1 - p) (hcl : cur.length = l.length) (hc : ∀ j, j < l.length → cur[j]? = some (turnedAt l p j)) : cur = l.reverse := by
  apply List.ext_getElem?
  intro j
  by_cases hj : j < l.length
  · rw [hc j hj, List.getElem?_reverse hj, List.getElem?_eq_getElem (by omega), turnedAt]
    have hg : l.getD (l.length - 1 - j) 0 = l[l.length - 1 - j]'(by omega) := by simp [List.getD, List.getElem?_eq_getElem (show l.length - 1 - j < l.length by omega)]
    by_cases h3 : j < p ∨ l.length ≤ j + p
    · rw [if_pos h3, hg]
    · rw [if_neg h3]
      have e : l.length - 1 - j = j := by omega
      rw [← hg, e]
  · rw [List.getElem?_eq_none (by omega), List.getElem?_eq_none (by simp; omega)]

set_option maxRecDepth 100000 in
set_option maxHeartbeats 2000000 in
theorem word_any (n r : Nat) (w : World) (hn : n < 10 ^ 20) (hn64 : (n : Int) ≤ 18446744073709551615) (hr : r ≤ 20) (h1 : 0 < r) :
    Calls Try.prog 68 #[.int .u64 n, .int .i64 r] w fun e w' => e = .returned (.string (strOfNums (wordL 20 n r).reverse)) ∧ Below w.heap.size w w' := by
  obtain ⟨L, hL⟩ : ∃ L, wordL 20 n r = L := ⟨_, rfl⟩
  have hlen := wordL_len 20 n r
  rw [hL] at hlen ⊢
  have HL := Lib.hid hL
  clear hL
  go_enter Try.func68, Try.ntmps68
  go_wp2_with fail
  go_loopw [0, 5] (fun a v wr => ∃ (f m : Nat) (done : List Int), a = .int .u64 m ∧ (m : Int) ≤ 18446744073709551615 ∧ m < 10 ^ f ∧ r - done.length ≤ f ∧ f ≤ 20 ∧ done.length + f = 20 ∧ OwnW wr w.heap.size v done ∧ done ++ wordL f m (r - done.length) = L ∧ Below w.heap.size w wr) (fun a v _ => (intOf a).toNat + (r - sliceLen v))
  case atStart => exact ⟨20, n, [], rfl, hn64, hn, by simp; omega, by omega, by simp, World.ownsRow_nil _ _ _ _, by simpa using HL.out, Below.refl _ _⟩
  case round =>
    obtain ⟨f, m, done, rfl, hm64, hmf, hrf, hf, hdf, ho, hd, hb⟩ := hrel
    have HO := Lib.hid ho; have HD := Lib.hid hd; have HB := Lib.hid hb; have HMF := Lib.hid hmf
    obtain ⟨ad, c, hv, hc1, hc2⟩ := ownW_shape ho
    subst hv
    clear ho hd hb hmf
    by_cases hgo : 0 < m ∨ done.length < r
    · have hcases : 0 < m ∨ (¬ 0 < m ∧ done.length < r) := by omega
      obtain ⟨f', rfl⟩ : ∃ f', f = f' + 1 := by
        refine ⟨f - 1, ?_⟩
        rcases Nat.eq_zero_or_pos f with h0 | h0
        · subst h0; have := HMF.out; simp at this; omega
        · omega
      have hstep : wordL (f' + 1) m (r - done.length) = (48 + ((m % 10 : Nat) : Int)) :: wordL f' (m / 10) (r - (done.length + 1)) := by
        rw [wordL, if_neg (by omega), Nat.sub_sub]
      have hmf' : m / 10 < 10 ^ f' := by have := HMF.out; rw [Nat.pow_succ] at this; omega
      have HS := Lib.hid hstep; have HMF' := Lib.hid hmf'
      have hdg : (48 + (m : Int) % 10) = 48 + ((m % 10 : Nat) : Int) := by omega
      have HDG := Lib.hid hdg
      clear hgo hstep hmf' hdg
      have hmeas : m / 10 + (r - (done.length + 1)) < m + (r - done.length) := by omega
      rcases hcases with hgo | ⟨hgo, hgo2⟩
      all_goals
        go_wp2_with (at_builtin; go_must (refine app1 rfl _ _ 90 rfl Try.underlying90 eiU8w w.heap.size (by rfl) HO.out (by rfl) rfl (by simp [Value.oneCell']) (by omega) HB.out.size ?_))
        intro v4 w4 ho4 hb4 _
        have h4 : OwnW w4 w.heap.size v4 (done ++ [48 + ((m % 10 : Nat) : Int)]) := by rw [← HDG.out]; simpa [OwnW] using ho4
        have H4 := Lib.hid h4; have B4 := Lib.hid (HB.out.trans hb4)
        obtain ⟨ad4, c4, hv4, _, _⟩ := ownW_shape h4
        subst hv4
        clear ho4 h4 hb4
        go_wp2
        go_roundw
        case rel => exact ⟨f', m / 10, _, by go_num, by omega, HMF'.out, by simp; omega, by omega, by simp; omega, H4.out, by rw [← HD.out, HS.out]; simp, B4.out⟩
        case measure => simp [intOf, sliceLen] <;> omega
    · obtain rfl : m = 0 := by omega
      have hL : done = L := by
        have := HD.out
        rw [show r - done.length = 0 by omega, wordL_zero, List.append_nil] at this
        exact this
      subst hL
      have hpos : 0 < done.length := by omega
      have ho' : wr.ownsRow w.heap.size 5 1 (.slice ad done.length c) done.length (done.map (Value.int .u8)) := HO.out
      obtain ⟨g, hadd, hg0, hglt⟩ : ∃ g, ad = some ⟨g, 0, none⟩ ∧ w.heap.size ≤ g ∧ g < wr.heap.size := by
        rcases ho'.2 with ⟨_, h0⟩ | ⟨g, cap, cur, e, h2, h3, _⟩
        · omega
        · injection e with e _ _
          exact ⟨g, e, h2, (Array.getElem?_eq_some_iff.1 h3).1⟩
      subst hadd
      have HR : Hid (∀ j, j < done.length → done[j]? = some (turnedAt done 0 j)) := Lib.hid fun j hj => by
        rw [turnedAt, if_neg (by omega)]
        obtain ⟨x, hx⟩ := getElem?_ex hj
        rw [hx, getD_of hx]
      have HO' := Lib.hid ho'
      have hge : ¬ (done.length : Int) < r := by omega
      have hlen20 : (done.length : Int) ≤ 20 := by omega
      clear HO HD HMF hgo ho'
      go_wp2
      go_loopw [6, 7] (fun i k wr => ∃ (p : Nat) (cur : List Int), i = .int .i64 p ∧ k = .int .i64 ((done.length : Int) - 1 - p) ∧ cur.length = done.length ∧ p ≤ done.length ∧ wr.ownsRow w.heap.size 5 1 (.slice (some ⟨g, 0, none⟩) done.length c) done.length (cur.map (Value.int .u8)) ∧ (∀ j, j < done.length → cur[j]? = some (turnedAt done p j)) ∧ Below w.heap.size w wr) (fun i k _ => (intOf k + 1 - intOf i).toNat)
      case atStart => exact ⟨0, done, rfl, by go_num, rfl, by omega, HO'.out, HR.out, HB.out⟩
      case round =>
        obtain ⟨p, cur, rfl, rfl, hcl, hp, ho, hcur, hb⟩ := hrel
        have HO2 := Lib.hid ho; have HCU := Lib.hid hcur; have HB2 := Lib.hid hb; have HCL := Lib.hid hcl
        have hgw := (ho.lt g rfl).2
        clear ho hcur hb hcl
        by_cases hlt : (p : Int) < (done.length : Int) - 1 - p
        · obtain ⟨q, hq⟩ : ∃ q : Nat, (done.length : Int) - 1 - p = q := ⟨done.length - 1 - p, by omega⟩
          rw [hq] at hlt ⊢
          have hpq : p < q := by omega
          have hql : q < done.length := by omega
          obtain ⟨x, hx⟩ := getElem?_ex (l := cur) (k := p) (by rw [HCL.out]; omega)
          obtain ⟨y, hy⟩ := getElem?_ex (l := cur) (k := q) (by rw [HCL.out]; omega)
          have c1 : wr.cell? ⟨g, p, none⟩ = some (.int .u8 x) := (HO2.out.cellAt p (by omega)).trans (by simp [hx])
          have c2 : wr.cell? ⟨g, q, none⟩ = some (.int .u8 y) := (HO2.out.cellAt q (by omega)).trans (by simp [hy])
          have f1 := HO2.out.frozenAt p
          have f2 := HO2.out.frozenAt q
          have hne : p ≠ q := by omega
          have hne2 : q ≠ p := by omega
          have HX := Lib.hid hx; have HY := Lib.hid hy; have HQ := Lib.hid hq
          clear hx hy hq
          go_wp2
          go_region
          have hcu2 : ∀ j, j < done.length → ((cur.set p y).set q x)[j]? = some (turnedAt done (p + 1) j) := turned_step hpq hql HQ.out HCL.out HCU.out HX.out HY.out
          have HCU2 := Lib.hid hcu2
          have ho2 := (HO2.out.stored p (.int .u8 y)).1.stored q (.int .u8 x)
          have ho3 := ho2.1
          rw [← List.map_set, ← List.map_set] at ho3
          have HO3 := Lib.hid ho3
          clear hcu2 ho2 ho3
          all_goals
            go_wp2
            go_roundw
            case rel => exact ⟨p + 1, (cur.set p y).set q x, by go_num, by have := HQ.out; go_num, by simp [HCL.out], by omega, own_keep HO3.out (fun _ _ _ => rfl), HCU2.out, by (repeat (first | with_reducible exact Below.refl _ _ | ((with_reducible refine Below.setCell ?_ ?_ _); rotate_left; (focus (first | omega | (simp; done) | (simp; omega)))) | ((with_reducible refine Below.alloc ?_ ?_ _); rotate_left; (focus (first | omega | (simp; done) | (simp; omega)))) | (with_reducible refine Below.drew ?_) | (with_reducible refine below_drewN ?_ _) | ((with_reducible refine Below.trans ?_ (Below.mono HB2.out ?_)); rotate_left; (focus (first | omega | (simp; done) | (simp; omega))))))⟩
            case measure => simp [intOf] <;> omega
        · have hrev : cur = done.reverse := turned_end (by omega) HCL.out HCU.out
          have hI := (Ints.own (k := .u8) (l := cur) HO2.out (by have := HCL.out; omega)).2
          have hcv := hI.stringW
          rw [hrev] at hcv
          clear hrev hI
          go_wp2
          go_ret
          exact ⟨rfl, HB2.out⟩
end Go.Proofs.Yticpmcghdoiceaa
