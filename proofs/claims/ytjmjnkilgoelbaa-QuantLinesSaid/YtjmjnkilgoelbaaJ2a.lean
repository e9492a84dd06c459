/-
  BagF: Walk of Add of an empty bag.
  BagG: A row of a bag goes.
  BagH: Plain laws of a bag: a score less.
  BagK: Walk of the reference's Rank.
  BagL: Walk of Rank.
  BagM: Plain laws of a bag's ranks.
  BagO: Walks of slices.Grow of nil, slices.Concat of a bag's rows, All.
  BagJ: Walk of Kth.
-/
import Derived.Test.YtjmjnkilgoelbaaKBagE
namespace Go.Proofs.Ytjmjnkilgoelbaa
open Go.RowKit

theorem rowAt_set {w : World} {b o : Nat} {u : Value} {g : Nat} {e : TypeId} {cur : Array Value} (h : RowAt w g e cur) (hne : g ≠ b) : RowAt (w.setCell ⟨b, o, none⟩ u) g e cur := (Below.heap_setCell _ _ _ _ hne).trans h

theorem bag_one (w1 : World) (P : Nat) (p q : Int) {x0 x1 : Value} (hP : P < w1.heap.size) (c0 : w1.cell? ⟨P, 0, none⟩ = some x0) (c1 : w1.cell? ⟨P, 1, none⟩ = some x1) (f0 : w1.frozen? ⟨P, 0, none⟩ = false) (f1 : w1.frozen? ⟨P, 1, none⟩ = false) :
    BagAt ((((w1.setCell ⟨P, 1, none⟩ (.int .i64 1)).setCell ⟨P, 0, none⟩ (.slice (some ⟨w1.heap.size + 1, 0, none⟩) 1 1)).alloc (.cells #[.int .i64 p, .int .i64 q] 24)).alloc (.cells #[.slice (some ⟨w1.heap.size, 0, none⟩) 1 1] 28)) P
      (.slice (some ⟨w1.heap.size + 1, 0, none⟩) 1 1) [.slice (some ⟨w1.heap.size, 0, none⟩) 1 1] [[(p, q)]] 1 := by
  obtain ⟨W, hW⟩ : ∃ W, (w1.setCell ⟨P, 1, none⟩ (.int .i64 1)).setCell ⟨P, 0, none⟩ (.slice (some ⟨w1.heap.size + 1, 0, none⟩) 1 1) = W := ⟨_, rfl⟩
  have hz : W.heap.size = w1.heap.size := by rw [← hW]; simp
  have d0 : W.cell? ⟨P, 0, none⟩ = some (.slice (some ⟨w1.heap.size + 1, 0, none⟩) 1 1) := by
    rw [← hW]
    exact World.cell?_setCell_same _ _ _ ((World.cell?_setCell_other _ _ _ _ (by simp)).trans c0)
  have d1 : W.cell? ⟨P, 1, none⟩ = some (.int .i64 1) := by
    rw [← hW, World.cell?_setCell_other _ _ _ _ (by simp)]
    exact World.cell?_setCell_same _ _ _ c1
  have g0 : W.frozen? ⟨P, 0, none⟩ = false := by rw [← hW, World.frozen?_setCell, World.frozen?_setCell]; exact f0
  have g1 : W.frozen? ⟨P, 1, none⟩ = false := by rw [← hW, World.frozen?_setCell, World.frozen?_setCell]; exact f1
  rw [hW]
  have B : Below W.heap.size W ((W.alloc (.cells #[.int .i64 p, .int .i64 q] 24)).alloc (.cells #[.slice (some ⟨w1.heap.size, 0, none⟩) 1 1] 28)) := by (repeat (first | with_reducible exact Below.refl _ _ | with_reducible refine Bs ?_ | with_reducible refine Ba ?_ | with_reducible refine Bd ?_ | with_reducible refine Bn ?_))
  have r1 : RowAt ((W.alloc (.cells #[.int .i64 p, .int .i64 q] 24)).alloc (.cells #[.slice (some ⟨w1.heap.size, 0, none⟩) 1 1] 28)) w1.heap.size 24 #[.int .i64 p, .int .i64 q] := by
    rw [← hz]
    exact (Below.heap_alloc _ _ _ (by simp)).trans (rowAt_new W _ _)
  have r2 : RowAt ((W.alloc (.cells #[.int .i64 p, .int .i64 q] 24)).alloc (.cells #[.slice (some ⟨w1.heap.size, 0, none⟩) 1 1] 28)) (w1.heap.size + 1) 28 #[.slice (some ⟨w1.heap.size, 0, none⟩) 1 1] := by
    have h := rowAt_new (W.alloc (.cells #[.int .i64 p, .int .i64 q] 24)) 28 #[.slice (some ⟨w1.heap.size, 0, none⟩) 1 1]
    rw [show (W.alloc (.cells #[.int .i64 p, .int .i64 q] 24)).heap.size = w1.heap.size + 1 by simp [hz]] at h
    exact h
  refine ⟨Nat.lt_of_lt_of_le (by rw [hz]; exact hP) B.size, kc B d0 (by omega), kc B d1 (by omega), kf B g0 (by omega), kf B g1 (by omega), rowAt_own (Nat.zero_le _) r2 (by decide) (by decide) rfl rfl, fun i u l hu hl => ?_, ?_⟩
  · have hi : i = 0 := by have := (List.getElem?_eq_some_iff.1 hu).1; simpa using this
    subst hi
    simp at hu hl
    subst hu hl
    exact rowAt_own (Nat.zero_le _) r1 (by decide) (by decide) rfl rfl
  · show (P :: [w1.heap.size + 1, w1.heap.size]).Nodup
    simp
    omega

set_option maxRecDepth 100000 in
set_option maxHeartbeats 4000000 in
theorem add_none (P : Nat) (v : Value) (vs : List Value) (p q : Int) (w : World) (h : BagAt w P v vs [] 0) (hs : scoreB (p, q) = true) :
    Calls Try.prog 23 #[.pointer (some ⟨P, 0, none⟩), .agg #[.int .i64 p, .int .i64 q]] w fun e w' => e = .returned (.int .i64 0) ∧ AddTo w P v vs [] (p, q) w' := by
  have HS := Lib.hid (fun W => sis_any p q W)
  rw [hs] at HS
  have HSC := Lib.hid hs
  have hlt := h.lt
  have c0 := h.c0
  have c1 := h.c1
  have f0 := h.f0
  have f1 := h.f1
  obtain ⟨a, c, rfl⟩ : ∃ a c, v = .slice a 0 c := by
    rcases h.row.2 with ⟨rfl, _⟩ | ⟨g, c, _, rfl, _⟩
    · exact ⟨none, 0, rfl⟩
    · exact ⟨_, _, rfl⟩
  clear hs h
  go_enter Try.func23, Try.ntmps23
  go_wp2_with fail
  (with_reducible refine (HS.out _).mono ?_); rintro e w1 ⟨rfl, b1⟩; have s1 : w.heap.size + 1 ≤ w1.heap.size := sz b1; have B1 := Lib.hid (Bc (B := w.heap.size) (a := w) (by (repeat (first | with_reducible exact Below.refl _ _ | with_reducible refine Bs ?_ | with_reducible refine Ba ?_ | with_reducible refine Bd ?_ | with_reducible refine Bn ?_))) b1); obtain ⟨c1_0, f1_0, c1_1, f1_1⟩ := k2f (P) (.slice a 0 c) (.int .i64 0) b1 (by and_intros <;> go_simp); obtain ⟨c1_2, c1_3⟩ := k2 (w.heap.size) (.int .i64 p) (.int .i64 q) b1 (by and_intros <;> go_simp); obtain ⟨l1_0, n1_0, m1_0⟩ := lnm (show P < w1.heap.size by omega); obtain ⟨l1_1, n1_1, m1_1⟩ := lnm (show w.heap.size < w1.heap.size by omega); clear b1
  go_wp2_with fail
  go_ret
  refine ⟨rfl, _, _, _, bag_one w1 P p q l1_0 c1_0 c1_1 f1_0 f1_1, ?_, ?_, ?_, ?_⟩
  · refine ⟨fun l hl => ?_, fun l hl => ?_, ?_, ?_, ?_⟩
    · simp at hl; subst hl; simp
    · simp at hl; subst hl; simp
    · simp [SortedS]
    · simpa [allS] using HSC.out
    · simp
  · simp
  · exact ((((OnlyIn.ofBelow B1.out).trans (OnlyIn.set (F := P :: blks (.slice a 0 c) vs) P 1 _ (by simp)) (fun x hx => .inl hx)).trans (OnlyIn.set (F := P :: blks (.slice a 0 c) vs) P 0 _ (by simp)) (fun x hx => .inl hx))).trans (OnlyIn.ofBelow (F := P :: blks (.slice a 0 c) vs) (by (repeat (first | with_reducible exact Below.refl _ _ | with_reducible refine Bs ?_ | with_reducible refine Ba ?_ | with_reducible refine Bd ?_ | with_reducible refine Bn ?_)))) (fun x hx => .inl hx)
  · intro x hx
    have hx' : x ∈ [w1.heap.size + 1, w1.heap.size] := hx
    simp at hx'
    exact .inr (by omega)

def bagE (bs : List (List (Int × Int))) (s : Int × Int) : Int := if scoreB s = true then (if 4096 ≤ bs.flatten.length then 3 else 0) else 130

/-- Add, whatever is put in. -/
theorem add_any (P : Nat) (v : Value) (vs : List Value) (bs : List (List (Int × Int))) (p q : Int) (w : World) (h : BagAt w P v vs bs bs.flatten.length) (hp : BagP bs) :
    Calls Try.prog 23 #[.pointer (some ⟨P, 0, none⟩), .agg #[.int .i64 p, .int .i64 q]] w fun e w' => e = .returned (.int .i64 (bagE bs (p, q))) ∧ ((bagE bs (p, q) = 0 ∧ AddTo w P v vs bs (p, q) w') ∨ (bagE bs (p, q) ≠ 0 ∧ Below w.heap.size w w')) := by
  unfold bagE
  cases hs : scoreB (p, q) with
  | false =>
    rw [if_neg (by decide)]
    exact (add_bad P p q w hs).mono fun e w' ⟨h1, h2⟩ => ⟨h1, .inr ⟨by decide, h2⟩⟩
  | true =>
    rw [if_pos rfl]
    by_cases hm : 4096 ≤ bs.flatten.length
    · rw [if_pos hm]
      exact (add_full P v vs bs _ p q w h hs hm (by have := hp.most; omega)).mono fun e w' ⟨h1, h2⟩ => ⟨h1, .inr ⟨by decide, h2⟩⟩
    · rw [if_neg hm]
      by_cases h0 : bs = []
      · subst h0
        exact (add_none P v vs p q w h hs).mono fun e w' ⟨h1, h2⟩ => ⟨h1, .inl ⟨rfl, h2⟩⟩
      · exact (add_some P v vs bs p q w h hp hs (by omega) h0).mono fun e w' ⟨h1, h2⟩ => ⟨h1, .inl ⟨rfl, h2⟩⟩

set_option maxRecDepth 100000 in
set_option maxHeartbeats 4000000 in
theorem add_nil (p q : Int) (w : World) : Calls Try.prog 23 #[.pointer none, .agg #[.int .i64 p, .int .i64 q]] w fun e w' => e = .returned (.int .i64 7) ∧ Below w.heap.size w w' := by
  go_enter Try.func23, Try.ntmps23
  go_wp2_with fail
  go_ret
  exact ⟨rfl, by (repeat (first | with_reducible exact Below.refl _ _ | with_reducible refine Bs ?_ | with_reducible refine Ba ?_ | with_reducible refine Bd ?_ | with_reducible refine Bn ?_))⟩

theorem len_nil (w : World) : Calls Try.prog 17 #[.pointer none] w fun e w' => e = .returned (.int .i64 0) ∧ w = w' := by
  go_enter Try.func17, Try.ntmps17
  go_wp2_with fail
  go_ret
  exact ⟨rfl, rfl⟩

theorem len_any (P : Nat) (v : Value) (vs : List Value) (bs : List (List (Int × Int))) (m : Nat) (w : World) (h : BagAt w P v vs bs m) : Calls Try.prog 17 #[.pointer (some ⟨P, 0, none⟩)] w fun e w' => e = .returned (.int .i64 m) ∧ w = w' := by
  have c1 := h.c1
  clear h
  go_enter Try.func17, Try.ntmps17
  go_wp2_with fail
  go_ret
  exact ⟨rfl, rfl⟩

theorem new_any (w : World) : Calls Try.prog 14 #[] w fun e w' => e = .returned (.pointer (some ⟨w.heap.size, 0, none⟩)) ∧ BagAt w' w.heap.size (.slice none 0 0) [] [] 0 ∧ Below w.heap.size w w' := by
  go_enter Try.func14, Try.ntmps14
  go_wp2_with fail
  go_ret
  have r := rowAt_new w 130 #[.slice none 0 0, .int .i64 0]
  exact ⟨rfl, ⟨by simp, r.cell 0, r.cell 1, r.frozen 0, r.frozen 1, World.ownsRow_nil _ _ _ _, fun i u l hu hl => by simp at hu, by (show (w.heap.size :: []).Nodup); simp⟩, by (repeat (first | with_reducible exact Below.refl _ _ | with_reducible refine Bs ?_ | with_reducible refine Ba ?_ | with_reducible refine Bd ?_ | with_reducible refine Bn ?_))⟩

theorem bagP_nil : BagP [] := ⟨fun l h => by simp at h, fun l h => by simp at h, by simp [SortedS], by simp [allS], by simp⟩
end Go.Proofs.Ytjmjnkilgoelbaa

namespace Go.Proofs.Ytjmjnkilgoelbaa
open Go.RowKit

theorem erase_sub {v v' : Value} {vs : List Value} {i g : Nat} (hv : v.ownBlock = some g) (hv' : v'.ownBlock = some g) : (blks v' (vs.eraseIdx i)).Sublist (blks v vs) := by
  unfold blks
  rw [List.filterMap_cons_some hv, List.filterMap_cons_some hv']
  exact ((List.eraseIdx_sublist vs i).filterMap _).cons_cons _

/-- A row has been taken out of a bag's rows, and they are stored. -/
theorem BagAt.delRow {w : World} {P : Nat} {v : Value} {vs : List Value} {bs : List (List (Int × Int))} {m : Nat} (h : BagAt w P v vs bs m) {g c : Nat} (hv : v = .slice (some ⟨g, 0, none⟩) bs.length c) {i : Nat} (hi : i < bs.length) {w1 : World} (hg : w.grownBy w1 (some g)) {v' : Value}
    (hr : w1.ownsRow 0 28 1 v' (bs.length - 1) (vs.take i ++ vs.drop (i + 1))) (hv' : v'.ownBlock = some g) :
    BagAt (w1.setCell ⟨P, 0, none⟩ v') P v' (vs.eraseIdx i) (bs.eraseIdx i) m ∧ OnlyIn (P :: blks v vs) w (w1.setCell ⟨P, 0, none⟩ v') ∧ ∀ x, x ∈ blks v' (vs.eraseIdx i) → x ∈ blks v vs := by
  have hgv : v.ownBlock = some g := by rw [hv]; rfl
  have hsub := erase_sub (vs := vs) (i := i) hgv hv'
  have e0 : blks v vs = g :: vs.filterMap Value.ownBlock := by unfold blks; rw [List.filterMap_cons_some hgv]
  have hnd : (P :: g :: vs.filterMap Value.ownBlock).Nodup := by have := h.apart; rwa [e0] at this
  have hgP : g ≠ P := fun e => (List.nodup_cons.1 hnd).1 (by rw [e]; simp)
  have hgn : g ∉ vs.filterMap Value.ownBlock := (List.nodup_cons.1 (List.nodup_cons.1 hnd).2).1
  have hPn : P ∉ vs.filterMap Value.ownBlock := fun e => (List.nodup_cons.1 hnd).1 (List.mem_cons.2 (.inr e))
  have hlow : ∀ x, x ∈ vs.filterMap Value.ownBlock → x < w.heap.size := fun x hx => h.foot (List.mem_cons.2 (.inr (by rw [e0]; exact List.mem_cons.2 (.inr hx))))
  have k1 : ∀ x, x < w.heap.size → x ≠ g → x ≠ P → (w1.setCell ⟨P, 0, none⟩ v').heap[x]? = w.heap[x]? := fun x hx h1 h2 => (Below.heap_setCell _ _ _ _ h2).trans (hg.block x hx (by simp; omega))
  have hP1 : w1.heap[P]? = w.heap[P]? := hg.block P h.lt (by simp; omega)
  have c0 : w1.cell? ⟨P, 0, none⟩ = some v := (World.cell?_of_block (a := ⟨P, 0, none⟩) hP1).trans h.c0
  refine ⟨⟨by simp; exact Nat.lt_of_lt_of_le h.lt hg.size, ?_, ?_, ?_, ?_, ?_, ?_, ?_⟩, ?_, fun x hx => hsub.subset hx⟩
  · exact World.cell?_setCell_same _ _ _ c0
  · rw [World.cell?_setCell_other _ _ _ _ (by simp)]
    exact (World.cell?_of_block (a := ⟨P, 1, none⟩) hP1).trans h.c1
  · rw [World.frozen?_setCell]; exact (World.frozen?_of_block (a := ⟨P, 0, none⟩) hP1).trans h.f0
  · rw [World.frozen?_setCell]; exact (World.frozen?_of_block (a := ⟨P, 1, none⟩) hP1).trans h.f1
  · rw [List.length_eraseIdx, if_pos hi, List.eraseIdx_eq_take_drop_succ]
    exact own_at hr fun q hq => by
      rw [hv'] at hq
      injection hq with hq
      subst hq
      exact Below.heap_setCell _ _ _ _ hgP
  · intro j x y hx hy
    rw [List.getElem?_eraseIdx] at hx hy
    have old : ∀ j', vs[j']? = some x → bs[j']? = some y → (w1.setCell ⟨P, 0, none⟩ v').ownsRow 0 24 2 x y.length (y.flatMap pairF) := fun j' h1 h2 => own_at (h.rows j' x y h1 h2) fun q hq => by
      have hqm : q ∈ vs.filterMap Value.ownBlock := List.mem_filterMap.2 ⟨x, List.mem_of_getElem? h1, hq⟩
      exact k1 q (hlow q hqm) (fun e => hgn (by rw [← e]; exact hqm)) (fun e => hPn (by rw [← e]; exact hqm))
    by_cases h1 : j < i
    · rw [if_pos h1] at hx hy
      exact old j hx hy
    · rw [if_neg h1] at hx hy
      exact old (j + 1) hx hy
  · exact (hsub.cons_cons P).nodup h.apart
  · exact (OnlyIn.ofGrown (F := P :: blks v vs) hg fun x hx => by injection hx with hx; subst hx; rw [e0]; simp).trans (OnlyIn.set (F := P :: blks v vs) P 0 v' (by simp)) fun x hx => .inl hx
end Go.Proofs.Ytjmjnkilgoelbaa

namespace Go.Proofs.Ytjmjnkilgoelbaa
open Go.RowKit

theorem odd_strict {a s : Int × Int} (h : oddI a s < 0) : a ≠ s := fun e => by
  subst e
  rw [oddI_self] at h
  omega

/-- Less odd than one that is less odd. -/
theorem odd_lt {a b s : Int × Int} (h1 : oddI a b ≤ 0) (h2 : oddI b s < 0) : a ≠ s := fun e => by
  subst e
  have := odd_turn a b
  omega

theorem geB_lt {l : List (Int × Int)} {s x : Int × Int} {i : Nat} (h : geB l s i = false) (hx : l[i]? = some x) : oddI x s < 0 := by
  rw [geB_some hx, decide_eq_false_iff_not] at h
  omega

theorem row_less {bs : List (List (Int × Int))} (hp : BagP bs) {s : Int × Int} {j : Nat} {l : List (Int × Int)} (hl : bs[j]? = some l) (h : lastGe bs s j = false) : s ∉ l := fun hx => by
  have hm := List.mem_of_getElem? hl
  obtain ⟨y, hy⟩ := last_get (hp.some l hm)
  rw [lastGe_some hl] at h
  exact odd_lt (le_last (hp.row hm).1 hx hy) (geB_lt h hy) rfl

/-- All rows end ahead of s. -/
theorem none_all {bs : List (List (Int × Int))} (hp : BagP bs) {s : Int × Int} (h : ∀ j, j < bs.length → lastGe bs s j = false) : s ∉ bs.flatten := fun hx => by
  obtain ⟨l, hl, hxl⟩ := List.mem_flatten.1 hx
  obtain ⟨j, hj⟩ := List.getElem?_of_mem hl
  exact row_less hp hj (h j (List.getElem?_eq_some_iff.1 hj).1) hxl

/-- s does not stand in its place. -/
theorem none_at {bs : List (List (Int × Int))} (hp : BagP bs) {s : Int × Int} (hs : scoreB s = true) {r k : Nat} {l : List (Int × Int)} {x : Int × Int} (hl : bs[r]? = some l) (hr : ∀ j, j < r → lastGe bs s j = false)
    (hk1 : ∀ j, j < k → geB l s j = false) (hx : l[k]? = some x) (hkx : geB l s k = true) (hne : x ≠ s) : s ∉ bs.flatten := fun hm => by
  have hlm := List.mem_of_getElem? hl
  have hxs := allS_mem (hp.row hlm).2 (List.mem_of_getElem? hx)
  have hsx := geB_yes hkx hx
  have stop : ∀ y, scoreB y = true → oddI x y ≤ 0 → y ≠ s := fun y hy h e => by
    subst e
    have h0 : oddI x y = 0 := by have := odd_turn x y; omega
    exact hne (odd_zero hxs hy h0)
  rw [flat_at hl, List.mem_append, List.mem_append] at hm
  rcases hm with (hm | hm) | hm
  · obtain ⟨l', hl', hsl⟩ := List.mem_flatten.1 hm
    obtain ⟨j, hj⟩ := List.getElem?_of_mem hl'
    rw [List.getElem?_take] at hj
    split at hj
    · rename_i hji
      exact row_less hp hj (hr j hji) hsl
    · cases hj
  · obtain ⟨j, hj⟩ := List.getElem?_of_mem hm
    rcases Nat.lt_or_ge j k with hlt | hge
    · exact odd_strict (geB_lt (hk1 j hlt) hj) rfl
    · refine stop s hs ?_ rfl
      obtain ⟨h1, h2⟩ := List.getElem?_eq_some_iff.1 hj
      obtain ⟨h3, h4⟩ := List.getElem?_eq_some_iff.1 hx
      rcases Nat.lt_or_ge k j with hlt | hge'
      · have := List.pairwise_iff_getElem.1 (hp.row hlm).1 k j h3 h1 hlt
        rwa [h2, h4] at this
      · have he : j = k := by omega
        subst he
        rw [← h4, h2, oddI_self]
        exact Int.le_refl _
  · obtain ⟨l', hl', hsl⟩ := List.mem_flatten.1 hm
    obtain ⟨j, hj⟩ := List.getElem?_of_mem hl'
    rw [List.getElem?_drop] at hj
    refine stop s hs ?_ rfl
    obtain ⟨h1, h2⟩ := List.getElem?_eq_some_iff.1 hj
    obtain ⟨h3, h4⟩ := List.getElem?_eq_some_iff.1 hl
    have hpw := List.pairwise_iff_getElem.1 (List.pairwise_flatten.1 hp.sort).2 r (r + 1 + j) h3 h1 (by omega)
    rw [h2, h4] at hpw
    exact hpw x (List.mem_of_getElem? hx) s hsl

/-- A score less. -/
theorem flat_del {bs : List (List (Int × Int))} (hp : BagP bs) {s : Int × Int} {r k : Nat} {l : List (Int × Int)} (hl : bs[r]? = some l) (hx : l[k]? = some s) :
    (s :: (bs.set r (l.take k ++ l.drop (k + 1))).flatten).Perm bs.flatten ∧ SortedS (bs.set r (l.take k ++ l.drop (k + 1))).flatten := by
  obtain ⟨hr, _⟩ := List.getElem?_eq_some_iff.1 hl
  obtain ⟨hk, he⟩ := List.getElem?_eq_some_iff.1 hx
  have hf := flat_at hl
  have e1 : l = l.take k ++ s :: l.drop (k + 1) := by
    rw [← he, List.getElem_cons_drop, List.take_append_drop]
  have e2 : (bs.set r (l.take k ++ l.drop (k + 1))).flatten = ((bs.take r).flatten ++ l.take k) ++ (l.drop (k + 1) ++ (bs.drop (r + 1)).flatten) := by
    rw [set_flat hr]; simp
  have e3 : bs.flatten = ((bs.take r).flatten ++ l.take k) ++ s :: (l.drop (k + 1) ++ (bs.drop (r + 1)).flatten) := by
    rw [hf]
    conv => lhs; rw [e1]
    simp
  have hso := hp.sort
  refine ⟨?_, ?_⟩
  · rw [e2, e3]
    exact List.perm_middle.symm
  · unfold SortedS at hso ⊢
    rw [e3] at hso
    rw [e2]
    exact hso.sublist (List.Sublist.append_left (List.sublist_cons_self _ _) _)
end Go.Proofs.Ytjmjnkilgoelbaa

namespace Go.Proofs.Ytjmjnkilgoelbaa
open Go.RowKit

set_option maxRecDepth 100000 in
set_option maxHeartbeats 4000000 in
theorem rrank_bad (v : Value) (p q : Int) (w : World) (hs : scoreB (p, q) = false) :
    Calls Try.prog 21 #[v, .agg #[.int .i64 p, .int .i64 q]] w fun e w' => e = .returned (.tuple #[.int .i64 0, .int .i64 0, .int .i64 130]) ∧ Below w.heap.size w w' := by
  have HS := Lib.hid (fun W => ris13_any p q W)
  rw [hs] at HS
  clear hs
  go_enter Try.func21, Try.ntmps21
  go_wp2_with fail
  (with_reducible refine (HS.out _).mono ?_)
  rintro e w1 ⟨rfl, b1⟩
  have B1 := Lib.hid b1
  go_wp2_with fail
  exact bodyPost_ret (v := .tuple #[.int .i64 0, .int .i64 0, .int .i64 130]) (by simp [results, Try.results21, go_sem]) rfl ⟨rfl, by (repeat (first | with_reducible exact Below.refl _ _ | with_reducible refine Bs ?_ | with_reducible refine Ba ?_ | with_reducible refine Bd ?_ | with_reducible refine Bn ?_ | with_reducible refine Bt B1.out ?_))⟩

set_option maxRecDepth 100000 in
set_option maxHeartbeats 4000000 in
theorem rrank_any (l : List (Int × Int)) (a : Option Addr) (n c : Nat) (p q : Int) (w : World) (hs : scoreB (p, q) = true) (hl : PairsR w (.slice a n c) l) (hn : l.length = n) (hal : allS l = true) (h4 : n ≤ 4096) :
    Calls Try.prog 21 #[.slice a n c, .agg #[.int .i64 p, .int .i64 q]] w fun e w' => e = .returned (.tuple #[.int .i64 (l.countP fun x => decide (oddI x (p, q) < 0)), .int .i64 (l.countP fun x => x == (p, q)), .int .i64 0]) ∧ Below w.heap.size w w' := by
  have HS := Lib.hid (fun W => ris13_any p q W)
  rw [hs] at HS
  have HSC := Lib.hid hs
  have HL := Lib.hid hl
  have HA := Lib.hid hal
  have HN := Lib.hid hn
  clear hs hl hal hn
  go_enter Try.func21, Try.ntmps21
  go_wp2_with fail
  (with_reducible refine (HS.out _).mono ?_)
  rintro e w1 ⟨rfl, b1⟩
  have B1 := Lib.hid b1
  go_wp2_with fail
  have t0 : w1.cell? ⟨w.heap.size, 0, none⟩ = some (.int .i64 p) := (B1.out.cell (by simp)).trans (by go_simp)
  have t1 : w1.cell? ⟨w.heap.size, 1, none⟩ = some (.int .i64 q) := (B1.out.cell (by simp)).trans (by go_simp)
  have BB := Lib.hid (show Below w.heap.size w w1 from by (repeat (first | with_reducible exact Below.refl _ _ | with_reducible refine Bs ?_ | with_reducible refine Ba ?_ | with_reducible refine Bd ?_ | with_reducible refine Bn ?_ | with_reducible refine Bt B1.out ?_)))
  go_loopw [7, 8, 9] (fun less same i wr => ∃ j : Nat, i = .int .i64 j ∧ j ≤ n ∧ less = .int .i64 ((l.take j).countP fun x => decide (oddI x (p, q) < 0)) ∧ same = .int .i64 ((l.take j).countP fun x => x == (p, q)) ∧ Below w.heap.size w wr ∧ wr.cell? ⟨w.heap.size, 0, none⟩ = some (.int .i64 p) ∧ wr.cell? ⟨w.heap.size, 1, none⟩ = some (.int .i64 q)) (fun _ _ i _ => n - (intOf i).toNat)
  case atStart => exact ⟨0, rfl, by omega, rfl, rfl, BB.out, t0, t1⟩
  case round =>
    obtain ⟨j, rfl, hj, rfl, rfl, hb, c0, c1⟩ := hrel
    have BR := Lib.hid hb
    by_cases hjn : j < n
    · obtain ⟨⟨x, y⟩, hx⟩ := getElem?_ex (l := l) (k := j) (by rw [HN.out]; exact hjn)
      obtain ⟨b, o, rfl, hb1, _, _⟩ := HL.out.cells hx
      obtain ⟨_, hc0, hc1⟩ := (HL.out.below hb).at hx
      have hxs : scoreB (x, y) = true := List.all_eq_true.1 HA.out _ (List.mem_of_getElem? hx)
      have hxb := of_decide_eq_true hxs
      have hqb := of_decide_eq_true HSC.out
      dsimp only at hxb hqb
      have HO := Lib.hid (fun W => rodder_any x y p q W (by omega) (by omega) (by omega) (by omega))
      have i1 : (0 : Int) ≤ (j : Int) := by omega
      have i2 : (j : Int) < (n : Int) := by omega
      have HT1 : ∀ f : Int × Int → Bool, (l.take (j + 1)).countP f = (l.take j).countP f + if f (x, y) then 1 else 0 := fun f => by
        rw [List.take_add_one, hx, List.countP_append]
        simp [List.countP_cons]
      have HT := Lib.hid HT1
      have hle1 := List.countP_le_length (p := fun x => decide (oddI x (p, q) < 0)) (l := l.take j)
      have hle2 := List.countP_le_length (p := fun x => x == (p, q)) (l := l.take j)
      rw [List.length_take] at hle1 hle2
      clear HT1 hx hxs hb
      obtain ⟨R, hR⟩ : ∃ R, oddI (x, y) (p, q) = R := ⟨_, rfl⟩
      rw [hR] at HO
      have HR := Lib.hid hR
      have hlb := World.block_lt_of_cell? _ _ c0
      dsimp only at hlb hc0 hc1
      clear hR hxb hqb
      go_wp2_with fail
      refine wp_region_held_drew (S := fun w' => w'.cell? ⟨b, o + j * 2, none⟩ = some (.int .i64 x) ∧ w'.cell? ⟨b, o + j * 2 + 1, none⟩ = some (.int .i64 y) ∧ w'.cell? ⟨w.heap.size, 0, none⟩ = some (.int .i64 p) ∧ w'.cell? ⟨w.heap.size, 1, none⟩ = some (.int .i64 q)) (by kernel_rfl) ?_ (fun hHeld => ?_); (focus (first | with_reducible exact True.intro | ((try dsimp only); and_intros <;> first | (go_simp; done) | (go_keep; done)))); (refine lexTk 0 (v := ?_) rfl hHeld ?_ (by kernel_rfl) (fun _ _ _ h => h) ?_ ?_; rotate_left 2; (focus rfl); (focus (intro w hSw; (try dsimp only at hSw); first | (go_simp; done) | (go_simp; with_reducible rfl)))); (try simp only [Act.put, List.setIfInBounds_toArray, List.set_cons_zero, List.set_cons_succ]); (refine lexTk 1 (v := ?_) rfl hHeld ?_ (by kernel_rfl) (fun _ _ _ h => h) ?_ ?_; rotate_left 2; (focus rfl); (focus (intro w hSw; (try dsimp only at hSw); first | (go_simp; done) | (go_simp; with_reducible rfl)))); (try simp only [Act.put, List.setIfInBounds_toArray, List.set_cons_zero, List.set_cons_succ]); (refine lexTk 2 (v := ?_) rfl hHeld ?_ (by kernel_rfl) (fun _ _ _ h => h) ?_ ?_; rotate_left 2; (focus rfl); (focus (intro w hSw; (try dsimp only at hSw); first | (go_simp; done) | (go_simp; with_reducible rfl)))); (try simp only [Act.put, List.setIfInBounds_toArray, List.set_cons_zero, List.set_cons_succ]); (refine lexTk 3 (v := ?_) rfl hHeld ?_ (by kernel_rfl) (fun _ _ _ h => h) ?_ ?_; rotate_left 2; (focus rfl); (focus (intro w hSw; (try dsimp only at hSw); first | (go_simp; done) | (go_simp; with_reducible rfl)))); (try simp only [Act.put, List.setIfInBounds_toArray, List.set_cons_zero, List.set_cons_succ]); (refine lexTk 4 (v := ?_) rfl hHeld ?_ (by kernel_rfl) (fun _ _ _ h => h) ?_ ?_; rotate_left 2; (focus rfl); (focus (intro w hSw; (try dsimp only at hSw); first | (go_simp; done) | (go_simp; with_reducible rfl)))); (try simp only [Act.put, List.setIfInBounds_toArray, List.set_cons_zero, List.set_cons_succ]); refine lexHv 5 rfl ?_ (by kernel_rfl); (intro K hK); (go_simp; go_at_call 26; (with_reducible refine (HO.out _).mono ?_); rintro e w2 ⟨rfl, b2⟩; have s2 : w.heap.size + 1 ≤ w2.heap.size := sz b2; have B2 := Lib.hid (Bc (B := w.heap.size) (a := w) (by (repeat (first | with_reducible exact Below.refl _ _ | with_reducible refine Bs ?_ | with_reducible refine Ba ?_ | with_reducible refine Bd ?_ | with_reducible refine Bn ?_ | with_reducible refine Bt BR.out ?_))) b2); have c2_0 : w2.cell? ⟨b, o + j * 2, none⟩ = some (.int .i64 x) := kc b2 (by go_simp) (by first | omega | (simp; done) | (simp; omega)); have c2_1 : w2.cell? ⟨b, o + j * 2 + 1, none⟩ = some (.int .i64 y) := kc b2 (by go_simp) (by first | omega | (simp; done) | (simp; omega)); obtain ⟨c2_2, c2_3⟩ := k2 (w.heap.size) (.int .i64 p) (.int .i64 q) b2 (by and_intros <;> go_simp); obtain ⟨l2_0, n2_0, m2_0⟩ := lnm (show b < w2.heap.size by omega); obtain ⟨l2_1, n2_1, m2_1⟩ := lnm (show w.heap.size < w2.heap.size by omega); clear b2; (try go_wp2_with fail)); refine hK.out _ _ ?_ ?_; (focus (first | with_reducible exact True.intro | ((try dsimp only); and_intros <;> first | (go_simp; done) | (go_keep; done)))); (clear hHeld hK K); (intro hHeld); (try simp only [Act.put, List.setIfInBounds_toArray, List.set_cons_zero, List.set_cons_succ]); (refine lexTk 6 (v := ?_) rfl hHeld ?_ (by kernel_rfl) (fun _ _ _ h => h) ?_ ?_; rotate_left 2; (focus rfl); (focus (intro w hSw; (try dsimp only at hSw); first | (go_simp; done) | (go_simp; with_reducible rfl)))); (try simp only [Act.put, List.setIfInBounds_toArray, List.set_cons_zero, List.set_cons_succ]); refine wpAnyH_done (by kernel_rfl) ?_ _
      by_cases hR0 : R < 0
      · go_wp2_with fail
        by_cases e1 : x = p
        · by_cases e2 : y = q
          · subst e1 e2
            refine wp_region_held_drew (S := fun w' => w'.cell? ⟨b, o + j * 2, none⟩ = some (.int .i64 x) ∧ w'.cell? ⟨b, o + j * 2 + 1, none⟩ = some (.int .i64 y) ∧ w'.cell? ⟨w.heap.size, 0, none⟩ = some (.int .i64 x) ∧ w'.cell? ⟨w.heap.size, 1, none⟩ = some (.int .i64 y)) (by kernel_rfl) ?_ (fun hHeld => ?_); (focus (first | with_reducible exact True.intro | ((try dsimp only); and_intros <;> first | (go_simp; done) | (go_keep; done)))); (refine lexTk 0 (v := ?_) rfl hHeld ?_ (by kernel_rfl) (fun _ _ _ h => h) ?_ ?_; rotate_left 2; (focus rfl); (focus (intro w hSw; (try dsimp only at hSw); first | (go_simp; done) | (go_simp; with_reducible rfl)))); (try simp only [Act.put, List.setIfInBounds_toArray, List.set_cons_zero, List.set_cons_succ]); (refine lexTk 1 (v := ?_) rfl hHeld ?_ (by kernel_rfl) (fun _ _ _ h => h) ?_ ?_; rotate_left 2; (focus rfl); (focus (intro w hSw; (try dsimp only at hSw); first | (go_simp; done) | (go_simp; with_reducible rfl)))); (try simp only [Act.put, List.setIfInBounds_toArray, List.set_cons_zero, List.set_cons_succ]); (refine lexTk 2 (v := ?_) rfl hHeld ?_ (by kernel_rfl) (fun _ _ _ h => h) ?_ ?_; rotate_left 2; (focus rfl); (focus (intro w hSw; (try dsimp only at hSw); first | (go_simp; done) | (go_simp; with_reducible rfl)))); (try simp only [Act.put, List.setIfInBounds_toArray, List.set_cons_zero, List.set_cons_succ]); (refine lexTk 3 (v := ?_) rfl hHeld ?_ (by kernel_rfl) (fun _ _ _ h => h) ?_ ?_; rotate_left 2; (focus rfl); (focus (intro w hSw; (try dsimp only at hSw); first | (go_simp; done) | (go_simp; with_reducible rfl)))); (try simp only [Act.put, List.setIfInBounds_toArray, List.set_cons_zero, List.set_cons_succ]); (refine lexTk 4 (v := ?_) rfl hHeld ?_ (by kernel_rfl) (fun _ _ _ h => h) ?_ ?_; rotate_left 2; (focus rfl); (focus (intro w hSw; (try dsimp only at hSw); first | (go_simp; done) | (go_simp; with_reducible rfl)))); (try simp only [Act.put, List.setIfInBounds_toArray, List.set_cons_zero, List.set_cons_succ]); (refine lexTk 5 (v := ?_) rfl hHeld ?_ (by kernel_rfl) (fun _ _ _ h => h) ?_ ?_; rotate_left 2; (focus rfl); (focus (intro w hSw; (try dsimp only at hSw); first | (go_simp; done) | (go_simp; with_reducible rfl)))); (try simp only [Act.put, List.setIfInBounds_toArray, List.set_cons_zero, List.set_cons_succ]); refine wpAnyH_done (by kernel_rfl) ?_ _
            go_wp2_with fail
            refine ⟨⟨j + 1, rfl, by omega, by rw [HT.out]; simp [HR.out, hR0], by rw [HT.out]; simp [*], by (repeat (first | with_reducible exact Below.refl _ _ | with_reducible refine Bs ?_ | with_reducible refine Ba ?_ | with_reducible refine Bd ?_ | with_reducible refine Bn ?_ | with_reducible refine Bt B2.out ?_ | with_reducible refine Bt BR.out ?_)), by go_simp, by go_simp⟩, by simp [intOf]; omega⟩
          · refine wp_region_held_drew (S := fun w' => w'.cell? ⟨b, o + j * 2, none⟩ = some (.int .i64 x) ∧ w'.cell? ⟨b, o + j * 2 + 1, none⟩ = some (.int .i64 y) ∧ w'.cell? ⟨w.heap.size, 0, none⟩ = some (.int .i64 p) ∧ w'.cell? ⟨w.heap.size, 1, none⟩ = some (.int .i64 q)) (by kernel_rfl) ?_ (fun hHeld => ?_); (focus (first | with_reducible exact True.intro | ((try dsimp only); and_intros <;> first | (go_simp; done) | (go_keep; done)))); (refine lexTk 0 (v := ?_) rfl hHeld ?_ (by kernel_rfl) (fun _ _ _ h => h) ?_ ?_; rotate_left 2; (focus rfl); (focus (intro w hSw; (try dsimp only at hSw); first | (go_simp; done) | (go_simp; with_reducible rfl)))); (try simp only [Act.put, List.setIfInBounds_toArray, List.set_cons_zero, List.set_cons_succ]); (refine lexTk 1 (v := ?_) rfl hHeld ?_ (by kernel_rfl) (fun _ _ _ h => h) ?_ ?_; rotate_left 2; (focus rfl); (focus (intro w hSw; (try dsimp only at hSw); first | (go_simp; done) | (go_simp; with_reducible rfl)))); (try simp only [Act.put, List.setIfInBounds_toArray, List.set_cons_zero, List.set_cons_succ]); (refine lexTk 2 (v := ?_) rfl hHeld ?_ (by kernel_rfl) (fun _ _ _ h => h) ?_ ?_; rotate_left 2; (focus rfl); (focus (intro w hSw; (try dsimp only at hSw); first | (go_simp; done) | (go_simp; with_reducible rfl)))); (try simp only [Act.put, List.setIfInBounds_toArray, List.set_cons_zero, List.set_cons_succ]); (refine lexTk 3 (v := ?_) rfl hHeld ?_ (by kernel_rfl) (fun _ _ _ h => h) ?_ ?_; rotate_left 2; (focus rfl); (focus (intro w hSw; (try dsimp only at hSw); first | (go_simp; done) | (go_simp; with_reducible rfl)))); (try simp only [Act.put, List.setIfInBounds_toArray, List.set_cons_zero, List.set_cons_succ]); (refine lexTk 4 (v := ?_) rfl hHeld ?_ (by kernel_rfl) (fun _ _ _ h => h) ?_ ?_; rotate_left 2; (focus rfl); (focus (intro w hSw; (try dsimp only at hSw); first | (go_simp; done) | (go_simp; with_reducible rfl)))); (try simp only [Act.put, List.setIfInBounds_toArray, List.set_cons_zero, List.set_cons_succ]); (refine lexTk 5 (v := ?_) rfl hHeld ?_ (by kernel_rfl) (fun _ _ _ h => h) ?_ ?_; rotate_left 2; (focus rfl); (focus (intro w hSw; (try dsimp only at hSw); first | (go_simp; done) | (go_simp; with_reducible rfl)))); (try simp only [Act.put, List.setIfInBounds_toArray, List.set_cons_zero, List.set_cons_succ]); refine wpAnyH_done (by kernel_rfl) ?_ _
            go_wp2_with fail
            refine ⟨⟨j + 1, rfl, by omega, by rw [HT.out]; simp [HR.out, hR0], by rw [HT.out]; simp [*], by (repeat (first | with_reducible exact Below.refl _ _ | with_reducible refine Bs ?_ | with_reducible refine Ba ?_ | with_reducible refine Bd ?_ | with_reducible refine Bn ?_ | with_reducible refine Bt B2.out ?_ | with_reducible refine Bt BR.out ?_)), by go_simp, by go_simp⟩, by simp [intOf]; omega⟩
        · refine wp_region_held_drew (S := fun w' => w'.cell? ⟨b, o + j * 2, none⟩ = some (.int .i64 x) ∧ w'.cell? ⟨b, o + j * 2 + 1, none⟩ = some (.int .i64 y) ∧ w'.cell? ⟨w.heap.size, 0, none⟩ = some (.int .i64 p) ∧ w'.cell? ⟨w.heap.size, 1, none⟩ = some (.int .i64 q)) (by kernel_rfl) ?_ (fun hHeld => ?_); (focus (first | with_reducible exact True.intro | ((try dsimp only); and_intros <;> first | (go_simp; done) | (go_keep; done)))); (refine lexTk 0 (v := ?_) rfl hHeld ?_ (by kernel_rfl) (fun _ _ _ h => h) ?_ ?_; rotate_left 2; (focus rfl); (focus (intro w hSw; (try dsimp only at hSw); first | (go_simp; done) | (go_simp; with_reducible rfl)))); (try simp only [Act.put, List.setIfInBounds_toArray, List.set_cons_zero, List.set_cons_succ]); (refine lexTk 1 (v := ?_) rfl hHeld ?_ (by kernel_rfl) (fun _ _ _ h => h) ?_ ?_; rotate_left 2; (focus rfl); (focus (intro w hSw; (try dsimp only at hSw); first | (go_simp; done) | (go_simp; with_reducible rfl)))); (try simp only [Act.put, List.setIfInBounds_toArray, List.set_cons_zero, List.set_cons_succ]); (refine lexTk 2 (v := ?_) rfl hHeld ?_ (by kernel_rfl) (fun _ _ _ h => h) ?_ ?_; rotate_left 2; (focus rfl); (focus (intro w hSw; (try dsimp only at hSw); first | (go_simp; done) | (go_simp; with_reducible rfl)))); (try simp only [Act.put, List.setIfInBounds_toArray, List.set_cons_zero, List.set_cons_succ]); (refine lexTk 3 (v := ?_) rfl hHeld ?_ (by kernel_rfl) (fun _ _ _ h => h) ?_ ?_; rotate_left 2; (focus rfl); (focus (intro w hSw; (try dsimp only at hSw); first | (go_simp; done) | (go_simp; with_reducible rfl)))); (try simp only [Act.put, List.setIfInBounds_toArray, List.set_cons_zero, List.set_cons_succ]); (refine lexTk 4 (v := ?_) rfl hHeld ?_ (by kernel_rfl) (fun _ _ _ h => h) ?_ ?_; rotate_left 2; (focus rfl); (focus (intro w hSw; (try dsimp only at hSw); first | (go_simp; done) | (go_simp; with_reducible rfl)))); (try simp only [Act.put, List.setIfInBounds_toArray, List.set_cons_zero, List.set_cons_succ]); (refine lexTk 5 (v := ?_) rfl hHeld ?_ (by kernel_rfl) (fun _ _ _ h => h) ?_ ?_; rotate_left 2; (focus rfl); (focus (intro w hSw; (try dsimp only at hSw); first | (go_simp; done) | (go_simp; with_reducible rfl)))); (try simp only [Act.put, List.setIfInBounds_toArray, List.set_cons_zero, List.set_cons_succ]); refine wpAnyH_done (by kernel_rfl) ?_ _
          go_wp2_with fail
          refine ⟨⟨j + 1, rfl, by omega, by rw [HT.out]; simp [HR.out, hR0], by rw [HT.out]; simp [*], by (repeat (first | with_reducible exact Below.refl _ _ | with_reducible refine Bs ?_ | with_reducible refine Ba ?_ | with_reducible refine Bd ?_ | with_reducible refine Bn ?_ | with_reducible refine Bt B2.out ?_ | with_reducible refine Bt BR.out ?_)), by go_simp, by go_simp⟩, by simp [intOf]; omega⟩
      · go_wp2_with fail
        by_cases e1 : x = p
        · by_cases e2 : y = q
          · subst e1 e2
            refine wp_region_held_drew (S := fun w' => w'.cell? ⟨b, o + j * 2, none⟩ = some (.int .i64 x) ∧ w'.cell? ⟨b, o + j * 2 + 1, none⟩ = some (.int .i64 y) ∧ w'.cell? ⟨w.heap.size, 0, none⟩ = some (.int .i64 x) ∧ w'.cell? ⟨w.heap.size, 1, none⟩ = some (.int .i64 y)) (by kernel_rfl) ?_ (fun hHeld => ?_); (focus (first | with_reducible exact True.intro | ((try dsimp only); and_intros <;> first | (go_simp; done) | (go_keep; done)))); (refine lexTk 0 (v := ?_) rfl hHeld ?_ (by kernel_rfl) (fun _ _ _ h => h) ?_ ?_; rotate_left 2; (focus rfl); (focus (intro w hSw; (try dsimp only at hSw); first | (go_simp; done) | (go_simp; with_reducible rfl)))); (try simp only [Act.put, List.setIfInBounds_toArray, List.set_cons_zero, List.set_cons_succ]); (refine lexTk 1 (v := ?_) rfl hHeld ?_ (by kernel_rfl) (fun _ _ _ h => h) ?_ ?_; rotate_left 2; (focus rfl); (focus (intro w hSw; (try dsimp only at hSw); first | (go_simp; done) | (go_simp; with_reducible rfl)))); (try simp only [Act.put, List.setIfInBounds_toArray, List.set_cons_zero, List.set_cons_succ]); (refine lexTk 2 (v := ?_) rfl hHeld ?_ (by kernel_rfl) (fun _ _ _ h => h) ?_ ?_; rotate_left 2; (focus rfl); (focus (intro w hSw; (try dsimp only at hSw); first | (go_simp; done) | (go_simp; with_reducible rfl)))); (try simp only [Act.put, List.setIfInBounds_toArray, List.set_cons_zero, List.set_cons_succ]); (refine lexTk 3 (v := ?_) rfl hHeld ?_ (by kernel_rfl) (fun _ _ _ h => h) ?_ ?_; rotate_left 2; (focus rfl); (focus (intro w hSw; (try dsimp only at hSw); first | (go_simp; done) | (go_simp; with_reducible rfl)))); (try simp only [Act.put, List.setIfInBounds_toArray, List.set_cons_zero, List.set_cons_succ]); (refine lexTk 4 (v := ?_) rfl hHeld ?_ (by kernel_rfl) (fun _ _ _ h => h) ?_ ?_; rotate_left 2; (focus rfl); (focus (intro w hSw; (try dsimp only at hSw); first | (go_simp; done) | (go_simp; with_reducible rfl)))); (try simp only [Act.put, List.setIfInBounds_toArray, List.set_cons_zero, List.set_cons_succ]); (refine lexTk 5 (v := ?_) rfl hHeld ?_ (by kernel_rfl) (fun _ _ _ h => h) ?_ ?_; rotate_left 2; (focus rfl); (focus (intro w hSw; (try dsimp only at hSw); first | (go_simp; done) | (go_simp; with_reducible rfl)))); (try simp only [Act.put, List.setIfInBounds_toArray, List.set_cons_zero, List.set_cons_succ]); refine wpAnyH_done (by kernel_rfl) ?_ _
            go_wp2_with fail
            refine ⟨⟨j + 1, rfl, by omega, by rw [HT.out]; simp only [HR.out]; rw [if_neg (by simp; omega)]; rfl, by rw [HT.out]; simp [*], by (repeat (first | with_reducible exact Below.refl _ _ | with_reducible refine Bs ?_ | with_reducible refine Ba ?_ | with_reducible refine Bd ?_ | with_reducible refine Bn ?_ | with_reducible refine Bt B2.out ?_ | with_reducible refine Bt BR.out ?_)), by go_simp, by go_simp⟩, by simp [intOf]; omega⟩
          · refine wp_region_held_drew (S := fun w' => w'.cell? ⟨b, o + j * 2, none⟩ = some (.int .i64 x) ∧ w'.cell? ⟨b, o + j * 2 + 1, none⟩ = some (.int .i64 y) ∧ w'.cell? ⟨w.heap.size, 0, none⟩ = some (.int .i64 p) ∧ w'.cell? ⟨w.heap.size, 1, none⟩ = some (.int .i64 q)) (by kernel_rfl) ?_ (fun hHeld => ?_); (focus (first | with_reducible exact True.intro | ((try dsimp only); and_intros <;> first | (go_simp; done) | (go_keep; done)))); (refine lexTk 0 (v := ?_) rfl hHeld ?_ (by kernel_rfl) (fun _ _ _ h => h) ?_ ?_; rotate_left 2; (focus rfl); (focus (intro w hSw; (try dsimp only at hSw); first | (go_simp; done) | (go_simp; with_reducible rfl)))); (try simp only [Act.put, List.setIfInBounds_toArray, List.set_cons_zero, List.set_cons_succ]); (refine lexTk 1 (v := ?_) rfl hHeld ?_ (by kernel_rfl) (fun _ _ _ h => h) ?_ ?_; rotate_left 2; (focus rfl); (focus (intro w hSw; (try dsimp only at hSw); first | (go_simp; done) | (go_simp; with_reducible rfl)))); (try simp only [Act.put, List.setIfInBounds_toArray, List.set_cons_zero, List.set_cons_succ]); (refine lexTk 2 (v := ?_) rfl hHeld ?_ (by kernel_rfl) (fun _ _ _ h => h) ?_ ?_; rotate_left 2; (focus rfl); (focus (intro w hSw; (try dsimp only at hSw); first | (go_simp; done) | (go_simp; with_reducible rfl)))); (try simp only [Act.put, List.setIfInBounds_toArray, List.set_cons_zero, List.set_cons_succ]); (refine lexTk 3 (v := ?_) rfl hHeld ?_ (by kernel_rfl) (fun _ _ _ h => h) ?_ ?_; rotate_left 2; (focus rfl); (focus (intro w hSw; (try dsimp only at hSw); first | (go_simp; done) | (go_simp; with_reducible rfl)))); (try simp only [Act.put, List.setIfInBounds_toArray, List.set_cons_zero, List.set_cons_succ]); (refine lexTk 4 (v := ?_) rfl hHeld ?_ (by kernel_rfl) (fun _ _ _ h => h) ?_ ?_; rotate_left 2; (focus rfl); (focus (intro w hSw; (try dsimp only at hSw); first | (go_simp; done) | (go_simp; with_reducible rfl)))); (try simp only [Act.put, List.setIfInBounds_toArray, List.set_cons_zero, List.set_cons_succ]); (refine lexTk 5 (v := ?_) rfl hHeld ?_ (by kernel_rfl) (fun _ _ _ h => h) ?_ ?_; rotate_left 2; (focus rfl); (focus (intro w hSw; (try dsimp only at hSw); first | (go_simp; done) | (go_simp; with_reducible rfl)))); (try simp only [Act.put, List.setIfInBounds_toArray, List.set_cons_zero, List.set_cons_succ]); refine wpAnyH_done (by kernel_rfl) ?_ _
            go_wp2_with fail
            refine ⟨⟨j + 1, rfl, by omega, by rw [HT.out]; simp only [HR.out]; rw [if_neg (by simp; omega)]; rfl, by rw [HT.out]; simp [*], by (repeat (first | with_reducible exact Below.refl _ _ | with_reducible refine Bs ?_ | with_reducible refine Ba ?_ | with_reducible refine Bd ?_ | with_reducible refine Bn ?_ | with_reducible refine Bt B2.out ?_ | with_reducible refine Bt BR.out ?_)), by go_simp, by go_simp⟩, by simp [intOf]; omega⟩
        · refine wp_region_held_drew (S := fun w' => w'.cell? ⟨b, o + j * 2, none⟩ = some (.int .i64 x) ∧ w'.cell? ⟨b, o + j * 2 + 1, none⟩ = some (.int .i64 y) ∧ w'.cell? ⟨w.heap.size, 0, none⟩ = some (.int .i64 p) ∧ w'.cell? ⟨w.heap.size, 1, none⟩ = some (.int .i64 q)) (by kernel_rfl) ?_ (fun hHeld => ?_); (focus (first | with_reducible exact True.intro | ((try dsimp only); and_intros <;> first | (go_simp; done) | (go_keep; done)))); (refine lexTk 0 (v := ?_) rfl hHeld ?_ (by kernel_rfl) (fun _ _ _ h => h) ?_ ?_; rotate_left 2; (focus rfl); (focus (intro w hSw; (try dsimp only at hSw); first | (go_simp; done) | (go_simp; with_reducible rfl)))); (try simp only [Act.put, List.setIfInBounds_toArray, List.set_cons_zero, List.set_cons_succ]); (refine lexTk 1 (v := ?_) rfl hHeld ?_ (by kernel_rfl) (fun _ _ _ h => h) ?_ ?_; rotate_left 2; (focus rfl); (focus (intro w hSw; (try dsimp only at hSw); first | (go_simp; done) | (go_simp; with_reducible rfl)))); (try simp only [Act.put, List.setIfInBounds_toArray, List.set_cons_zero, List.set_cons_succ]); (refine lexTk 2 (v := ?_) rfl hHeld ?_ (by kernel_rfl) (fun _ _ _ h => h) ?_ ?_; rotate_left 2; (focus rfl); (focus (intro w hSw; (try dsimp only at hSw); first | (go_simp; done) | (go_simp; with_reducible rfl)))); (try simp only [Act.put, List.setIfInBounds_toArray, List.set_cons_zero, List.set_cons_succ]); (refine lexTk 3 (v := ?_) rfl hHeld ?_ (by kernel_rfl) (fun _ _ _ h => h) ?_ ?_; rotate_left 2; (focus rfl); (focus (intro w hSw; (try dsimp only at hSw); first | (go_simp; done) | (go_simp; with_reducible rfl)))); (try simp only [Act.put, List.setIfInBounds_toArray, List.set_cons_zero, List.set_cons_succ]); (refine lexTk 4 (v := ?_) rfl hHeld ?_ (by kernel_rfl) (fun _ _ _ h => h) ?_ ?_; rotate_left 2; (focus rfl); (focus (intro w hSw; (try dsimp only at hSw); first | (go_simp; done) | (go_simp; with_reducible rfl)))); (try simp only [Act.put, List.setIfInBounds_toArray, List.set_cons_zero, List.set_cons_succ]); (refine lexTk 5 (v := ?_) rfl hHeld ?_ (by kernel_rfl) (fun _ _ _ h => h) ?_ ?_; rotate_left 2; (focus rfl); (focus (intro w hSw; (try dsimp only at hSw); first | (go_simp; done) | (go_simp; with_reducible rfl)))); (try simp only [Act.put, List.setIfInBounds_toArray, List.set_cons_zero, List.set_cons_succ]); refine wpAnyH_done (by kernel_rfl) ?_ _
          go_wp2_with fail
          refine ⟨⟨j + 1, rfl, by omega, by rw [HT.out]; simp only [HR.out]; rw [if_neg (by simp; omega)]; rfl, by rw [HT.out]; simp [*], by (repeat (first | with_reducible exact Below.refl _ _ | with_reducible refine Bs ?_ | with_reducible refine Ba ?_ | with_reducible refine Bd ?_ | with_reducible refine Bn ?_ | with_reducible refine Bt B2.out ?_ | with_reducible refine Bt BR.out ?_)), by go_simp, by go_simp⟩, by simp [intOf]; omega⟩
    · have : j = n := by omega
      subst this
      go_wp2_with fail
      rw [List.take_of_length_le (by rw [HN.out]; exact Nat.le_refl _)]
      exact bodyPost_ret (v := .tuple #[.int .i64 (l.countP fun x => decide (oddI x (p, q) < 0)), .int .i64 (l.countP fun x => x == (p, q)), .int .i64 0]) (by simp [results, Try.results21, go_sem]) rfl ⟨rfl, BR.out⟩
end Go.Proofs.Ytjmjnkilgoelbaa

namespace Go.Proofs.Ytjmjnkilgoelbaa
open Go.RowKit

set_option maxRecDepth 100000 in
set_option maxHeartbeats 4000000 in
theorem rank_bad (P : Nat) (p q : Int) (w : World) (hs : scoreB (p, q) = false) :
    Calls Try.prog 20 #[.pointer (some ⟨P, 0, none⟩), .agg #[.int .i64 p, .int .i64 q]] w fun e w' => e = .returned (.tuple #[.int .i64 0, .int .i64 0, .int .i64 130]) ∧ Below w.heap.size w w' := by
  have HS := Lib.hid (fun W => sis_any p q W)
  rw [hs] at HS
  clear hs
  go_enter Try.func20, Try.ntmps20
  go_wp2_with fail
  (with_reducible refine (HS.out _).mono ?_); rintro e w1 ⟨rfl, b1⟩; have s1 : w.heap.size + 1 ≤ w1.heap.size := sz b1; have B1 := Lib.hid (Bc (B := w.heap.size) (a := w) (by (repeat (first | with_reducible exact Below.refl _ _ | with_reducible refine Bs ?_ | with_reducible refine Ba ?_ | with_reducible refine Bd ?_ | with_reducible refine Bn ?_))) b1); clear b1
  go_wp2_with fail
  exact bodyPost_ret (v := .tuple #[.int .i64 0, .int .i64 0, .int .i64 130]) (by simp [results, Try.results20, go_sem]) rfl ⟨rfl, B1.out⟩
end Go.Proofs.Ytjmjnkilgoelbaa

namespace Go.Proofs.Ytjmjnkilgoelbaa
open Go.RowKit

/-- Just those between two places. -/
theorem countP_range {α : Type} {f : α → Bool} : ∀ {l : List α} {a b : Nat}, a ≤ b → b ≤ l.length → (∀ i x, l[i]? = some x → f x = decide (a ≤ i ∧ i < b)) → l.countP f = b - a
  | [], a, b, h1, h2, _ => by simp at h2 ⊢; omega
  | x :: l, a, b, h1, h2, h => by
    rw [List.countP_cons, h 0 x rfl]
    rw [List.length_cons] at h2
    by_cases hb : b = 0
    · subst hb
      obtain rfl : a = 0 := by omega
      rw [countP_range (l := l) (a := 0) (b := 0) (by omega) (by omega) fun i y hy => by rw [h (i + 1) y (by simpa using hy)]; simp]
      simp
    · rw [countP_range (l := l) (a := a - 1) (b := b - 1) (by omega) (by omega) fun i y hy => by
        rw [h (i + 1) y (by simpa using hy)]
        have hb0 : 0 < b := by omega
        by_cases h3 : a ≤ i + 1
        · by_cases h4 : i + 1 < b
          · rw [decide_eq_true ⟨h3, h4⟩, decide_eq_true ⟨by omega, by omega⟩]
          · rw [decide_eq_false (fun hh => h4 hh.2), decide_eq_false (fun hh => h4 (by omega))]
        · rw [decide_eq_false (fun hh => h3 hh.1), decide_eq_false (fun hh => h3 (by omega))]]
      by_cases ha : a = 0
      · subst ha
        simp [show 0 < b by omega]
        omega
      · rw [decide_eq_false (by omega)]
        simp
        omega

theorem countP_none {α : Type} {f : α → Bool} {l : List α} (h : ∀ x ∈ l, f x = false) : l.countP f = 0 := by
  rw [List.countP_eq_zero]
  intro x hx
  rw [h x hx]
  decide

/-- How many are less odd; how many are the same. -/
def ltC (s : Int × Int) (l : List (Int × Int)) : Nat := l.countP fun x => decide (oddI x s < 0)
def eqC (s : Int × Int) (l : List (Int × Int)) : Nat := l.countP fun x => x == s

theorem ltC_append (s : Int × Int) (a b : List (Int × Int)) : ltC s (a ++ b) = ltC s a + ltC s b := List.countP_append
theorem eqC_append (s : Int × Int) (a b : List (Int × Int)) : eqC s (a ++ b) = eqC s a + eqC s b := List.countP_append
theorem ltC_le (s : Int × Int) (l : List (Int × Int)) : ltC s l ≤ l.length := List.countP_le_length
theorem eqC_le (s : Int × Int) (l : List (Int × Int)) : eqC s l ≤ l.length := List.countP_le_length

theorem countP_all {α : Type} {f : α → Bool} {l : List α} (h : ∀ x ∈ l, f x = true) : l.countP f = l.length := List.countP_eq_length.2 h

/-- Is it odder? -/
def gtB (l : List (Int × Int)) (s : Int × Int) (i : Nat) : Bool := match l[i]? with | some x => decide (0 < oddI x s) | none => true

theorem gtB_some {l : List (Int × Int)} {s : Int × Int} {i : Nat} {x : Int × Int} (h : l[i]? = some x) : gtB l s i = decide (0 < oddI x s) := by
  unfold gtB
  rw [h]

/-- Behind a score that is odder than s all are. -/
theorem odd_over {a b s : Int × Int} (ha : scoreB a = true) (hb : scoreB b = true) (hs : scoreB s = true) (hab : oddI a b ≤ 0) (h : 0 < oddI a s) : 0 < oddI b s := by
  have h1 := odd_behind ha hb hs hab (by omega)
  rcases Int.lt_or_eq_of_le h1 with h2 | h2
  · exact h2
  · exfalso
    have h3 := odd_zero hb hs h2.symm
    subst h3
    omega

theorem gtB_mono {l : List (Int × Int)} {s : Int × Int} (ha : allS l = true) (hs : scoreB s = true) (hl : SortedS l) : ∀ i j, i ≤ j → j < l.length → gtB l s i = true → gtB l s j = true := fun i j hij hj h => by
  obtain ⟨x, hx⟩ := getElem?_ex (l := l) (k := i) (by omega)
  obtain ⟨y, hy⟩ := getElem?_ex (l := l) (k := j) hj
  rw [gtB_some hx, decide_eq_true_eq] at h
  rw [gtB_some hy, decide_eq_true_eq]
  rcases Nat.lt_or_ge i j with hlt | hge
  · refine odd_over (allS_mem ha (List.mem_of_getElem? hx)) (allS_mem ha (List.mem_of_getElem? hy)) hs ?_ h
    have := List.pairwise_iff_getElem.1 hl i j (by omega) hj hlt
    rw [List.getElem?_eq_getElem (by omega)] at hx
    rw [List.getElem?_eq_getElem hj] at hy
    injection hx with hx
    injection hy with hy
    rwa [hx, hy] at this
  · obtain rfl : i = j := by omega
    rw [hx] at hy
    injection hy with hy
    subst hy
    exact h

/-- How many of a row are less odd, and as odd. -/
theorem row_ranks {l : List (Int × Int)} {s : Int × Int} (ha : allS l = true) (hs : scoreB s = true) {k m : Nat} (hk : k ≤ l.length) (hm : m ≤ l.length) (k1 : ∀ i, i < k → geB l s i = false) (k2 : ∀ i, k ≤ i → i < l.length → geB l s i = true) (m1 : ∀ i, i < m → gtB l s i = false) (m2 : ∀ i, m ≤ i → i < l.length → gtB l s i = true) :
    k ≤ m ∧ ltC s l = k ∧ eqC s l = m - k := by
  have hkm : k ≤ m := by
    rcases Nat.lt_or_ge m k with h | h
    · exfalso
      obtain ⟨x, hx⟩ := getElem?_ex (l := l) (k := m) (by omega)
      have h1 := k1 m h
      have h2 := m2 m (Nat.le_refl _) (by omega)
      rw [geB_some hx, decide_eq_false_iff_not] at h1
      rw [gtB_some hx, decide_eq_true_eq] at h2
      omega
    · exact h
  refine ⟨hkm, ?_, ?_⟩
  · unfold ltC
    rw [countP_range (a := 0) (b := k) (Nat.zero_le _) hk fun i x hx => ?_]
    · rfl
    · have hil := (List.getElem?_eq_some_iff.1 hx).1
      by_cases hi : i < k
      · have := k1 i hi
        rw [geB_some hx, decide_eq_false_iff_not] at this
        rw [decide_eq_true (by omega), decide_eq_true (by omega)]
      · have := k2 i (by omega) hil
        rw [geB_some hx, decide_eq_true_eq] at this
        rw [decide_eq_false (by omega), decide_eq_false (by omega)]
  · unfold eqC
    refine countP_range hkm hm fun i x hx => ?_
    have hil := (List.getElem?_eq_some_iff.1 hx).1
    have hxs := allS_mem ha (List.mem_of_getElem? hx)
    by_cases he : x = s
    · subst he
      have h0 : oddI x x = 0 := oddI_self x
      have h1 : k ≤ i := by
        rcases Nat.lt_or_ge i k with h | h
        · have := k1 i h
          rw [geB_some hx, h0] at this
          simp at this
        · exact h
      have h2 : i < m := by
        rcases Nat.lt_or_ge i m with h | h
        · exact h
        · have := m2 i h hil
          rw [gtB_some hx, h0] at this
          simp at this
      rw [decide_eq_true ⟨h1, h2⟩]
      simp
    · rw [decide_eq_false]
      · simpa using he
      · rintro ⟨h1, h2⟩
        have h3 := k2 i h1 hil
        have h4 := m1 i h2
        rw [geB_some hx, decide_eq_true_eq] at h3
        rw [gtB_some hx, decide_eq_false_iff_not] at h4
        exact he (odd_zero hxs hs (by omega))

/-- All of the rows ahead of the block are less odd. -/
theorem ranks_ahead {bs : List (List (Int × Int))} (hp : BagP bs) {s : Int × Int} (hs : scoreB s = true) {i : Nat} (h : ∀ j, j < i → lastGe bs s j = false) :
    ltC s (bs.take i).flatten = (bs.take i).flatten.length ∧ eqC s (bs.take i).flatten = 0 := by
  have hlt : ∀ x ∈ (bs.take i).flatten, oddI x s < 0 := fun x hx => by
    obtain ⟨l, hl, hxl⟩ := List.mem_flatten.1 hx
    obtain ⟨j, hj⟩ := List.getElem?_of_mem hl
    rw [List.getElem?_take] at hj
    split at hj
    · rename_i hji
      have h1 := h j hji
      have hm := List.mem_of_getElem? hj
      obtain ⟨y, hy⟩ := last_get (hp.some l hm)
      rw [lastGe_some hj, geB_some hy, decide_eq_false_iff_not] at h1
      have h2 := le_last (hp.row hm).1 hxl hy
      have hxs := allS_mem (hp.row hm).2 hxl
      have hys := allS_mem (hp.row hm).2 (List.mem_of_getElem? hy)
      rcases Int.lt_or_le (oddI x s) 0 with h3 | h3
      · exact h3
      · exact absurd (odd_behind hxs hys hs h2 h3) h1
    · cases hj
  constructor
  · exact countP_all fun x hx => decide_eq_true (hlt x hx)
  · refine countP_none fun x hx => ?_
    have := hlt x hx
    by_cases he : x = s
    · subst he
      rw [oddI_self] at this
      omega
    · simpa using he

/-- Behind a row that has an odder one there is none as odd, nor less. -/
theorem ranks_behind {bs : List (List (Int × Int))} (hp : BagP bs) {s : Int × Int} (hs : scoreB s = true) {r : Nat} {l : List (Int × Int)} (hl : bs[r]? = some l) {m : Nat} (hm : m < l.length) (h : gtB l s m = true) :
    ltC s (bs.drop (r + 1)).flatten = 0 ∧ eqC s (bs.drop (r + 1)).flatten = 0 := by
  obtain ⟨x, hx⟩ := getElem?_ex (l := l) (k := m) hm
  rw [gtB_some hx, decide_eq_true_eq] at h
  have hlm := List.mem_of_getElem? hl
  have hgt : ∀ y ∈ (bs.drop (r + 1)).flatten, 0 < oddI y s := fun y hy => by
    obtain ⟨l', hl', hyl⟩ := List.mem_flatten.1 hy
    obtain ⟨j, hj⟩ := List.getElem?_of_mem hl'
    rw [List.getElem?_drop] at hj
    obtain ⟨h1, h2⟩ := List.getElem?_eq_some_iff.1 hj
    obtain ⟨h3, h4⟩ := List.getElem?_eq_some_iff.1 hl
    have hpw := List.pairwise_iff_getElem.1 (List.pairwise_flatten.1 hp.sort).2 r (r + 1 + j) h3 h1 (by omega)
    rw [h2, h4] at hpw
    exact odd_over (allS_mem (hp.row hlm).2 (List.mem_of_getElem? hx)) (allS_mem (hp.row (List.mem_of_getElem? hj)).2 hyl) hs (hpw x (List.mem_of_getElem? hx) y hyl) h
  constructor
  · refine countP_none fun y hy => decide_eq_false ?_
    have := hgt y hy
    omega
  · refine countP_none fun y hy => ?_
    have := hgt y hy
    by_cases he : y = s
    · subst he
      rw [oddI_self] at this
      omega
    · simpa using he

theorem flat_take_succ {bs : List (List (Int × Int))} {j : Nat} {l : List (Int × Int)} (hl : bs[j]? = some l) : (bs.take (j + 1)).flatten = (bs.take j).flatten ++ l := by
  rw [List.take_add_one, hl, List.flatten_append]
  simp

theorem flat_take_drop (bs : List (List (Int × Int))) (j : Nat) : bs.flatten = (bs.take j).flatten ++ (bs.drop j).flatten := by
  rw [← List.flatten_append, List.take_append_drop]
end Go.Proofs.Ytjmjnkilgoelbaa

namespace Go.Proofs.Ytjmjnkilgoelbaa
open Go.RowKit

/-- append(nil, make([]T, n)..): a new row. -/
theorem run_append_make_nil {P : Program} (w : World) (t tn ty e : TypeId) (i : TypeInfo) (z : Value) (kn kk : IntKind) (ht : P.underlying t = some (.slice e)) (htn : P.underlying tn = some (.int kn)) (hi : P.info? e = some i) (hz : i.zero = some z)
    (n : Nat) (h0 : 0 < n) (hs : 0 < i.size) (h63 : (n : Int) ≤ 9223372036854775807) (hbig : n * i.bytes ≤ 140737488355328) :
    (Builtin.append_ #[t, tn] ty #[.slice none 0 0, .int kk n]).run P w =
      .ok (.slice (some ⟨w.heap.size, 0, none⟩) n (grownCap w n 0 e))
        (w.drew.alloc (.cells (Builtin.zeroCells z.cells n ++ Builtin.zeroCells z.cells (grownCap w n 0 e - n)) e)) := by
  have hn0 : n ≠ 0 := by omega
  have hw : IntKind.i64.wrap (n : Int) = n := by rw [IntKind.wrap_i64]; omega
  have h63' : ¬ (9223372036854775807 < (n : Int)) := by omega
  have hfit := growslice_fits (show 0 < n from h0) hbig
  have h48' : ¬ (281474976710656 < Builtin.nextslicecap n 0 * i.bytes) := by omega
  have h48i : ¬ (281474976710656 < (n : Int) * (i.bytes : Int)) := by
    rw [← Int.natCast_mul]
    omega
  have hneg : ¬ ((n : Int) < 0) := by omega
  have hns : ¬ (n * i.size = 0) := Nat.mul_ne_zero hn0 (by omega)
  simp [Builtin.append_, run_underlying ht, run_underlying htn, sizeOf, typeInfo, zeroValue, hi, hz, asInt, asIntOf, hw, hn0, hneg, hns, h63', h48', h48i, Question.forced, Builtin.firstCells, newRow, grownCap]

set_option maxRecDepth 100000 in
set_option maxHeartbeats 4000000 in
theorem growS_any (n : Nat) (w : World) (hn : n ≤ 1000000) :
    Calls Try.prog 144 #[.slice none 0 0, .int .i64 n] w fun e w' => ∃ v', e = .returned v' ∧ w'.ownsRow w.heap.size 24 2 v' 0 [] ∧ Below w.heap.size w w' := by
  by_cases h0 : n = 0
  · subst h0
    go_enter Try.func144, Try.ntmps144
    go_wp2_with fail
    go_ret
    exact ⟨_, rfl, ⟨rfl, .inl ⟨rfl, rfl⟩⟩, by (repeat (first | with_reducible exact Below.refl _ _ | with_reducible refine Bs ?_ | with_reducible refine Ba ?_ | with_reducible refine Bd ?_ | with_reducible refine Bn ?_))⟩
  · obtain ⟨ti, hti, hz0, hsize, hby, hzs0, hsz, _⟩ := eiScore
    obtain ⟨z, hz, hzs⟩ : ∃ z, ti.zero = some z ∧ z.cells.size = 2 := ⟨_, hz0, hzs0⟩
    clear hz0 hzs0
    obtain ⟨C, hC⟩ : ∃ C, grownCap w n 0 24 = C := ⟨_, rfl⟩
    have hC1 := grownCap_ge w n 0 24
    have hC2 := grownCap_le_maxLen w n 0 24 (by unfold maxLen; omega)
    have hrun := fun ty => run_append_make_nil (P := Try.prog) w 28 3 ty 24 ti z .i64 .i64 Try.underlying28 Try.underlying3 hti hz n (by omega) (by rw [hsize]; omega) (by omega) (by rw [hby]; omega)
    rw [hC] at hrun hC1 hC2
    obtain ⟨cur, hcur⟩ : ∃ c, Builtin.zeroCells z.cells n ++ Builtin.zeroCells z.cells (C - n) = c := ⟨_, rfl⟩
    rw [hcur] at hrun
    have hs1 : cur.size = C * 2 := by
      rw [← hcur]
      simp only [Array.size_append, size_zeroCells, hzs]
      omega
    obtain ⟨W1, hW1⟩ : ∃ W, w.drew.alloc (.cells cur 24) = W := ⟨_, rfl⟩
    rw [hW1] at hrun
    have r1 : RowAt W1 w.heap.size 24 cur := by rw [← hW1]; exact heap_alloc_new w.drew _
    have b1 : Below w.heap.size w W1 := by rw [← hW1]; exact (Below.refl _ _).drew.alloc (Nat.le_refl _) _
    have hown := rowAt_own (base := w.heap.size) (n := 0) (size := 2) (xs := []) (Nat.le_refl _) r1 (Nat.zero_le C) hC2 hs1 (by simp)
    have HRUN := Lib.hid hrun
    have HO := Lib.hid hown
    have HB := Lib.hid b1
    have hC3 : (C : Int) ≤ 9223372036854775807 := by unfold maxLen at hC2; omega
    have i1 : (0 : Int) < (n : Int) := by omega
    have i2 : (n : Int) ≤ 1000000 := by omega
    have hw : IntKind.i64.wrap (n : Int) = n := by rw [IntKind.wrap_i64]; omega
    clear hrun hown b1 r1 hs1 hcur hW1 hC hC1 hC2 hti hz hsize hby hzs hsz
    go_enter Try.func144, Try.ntmps144
    go_wp2_with (at_builtin; refine Lib.wpList_append_run _ rfl _ _ _ _ rfl _ _ rfl rfl _ _ (HRUN.out _) ?_)
    go_ret
    exact ⟨_, rfl, HO.out, HB.out⟩

set_option maxRecDepth 100000 in
set_option maxHeartbeats 8000000 in
/-- All rows of a bag, one behind the other. -/
theorem concat_any (P : Nat) (v : Value) (vs : List Value) (bs : List (List (Int × Int))) (M : Nat) (w : World) (h : BagAt w P v vs bs M) (hp : BagP bs) :
    Calls Try.prog 78 #[v] w fun e w' => ∃ v', e = .returned v' ∧ PairsR w' v' bs.flatten ∧ Below w.heap.size w w' := by
  have hb := bags_len hp.some
  have hm := hp.most
  obtain ⟨a, c, rfl⟩ : ∃ a c, v = .slice a bs.length c := by
    rcases h.row.2 with ⟨rfl, h1⟩ | ⟨g, c, _, rfl, _⟩
    · exact ⟨none, 0, by rw [h1]⟩
    · exact ⟨_, _, rfl⟩
  have HB := Lib.hid h
  have HP := Lib.hid hp
  have hbn : bs.length ≤ 4096 := by omega
  clear h hp hb
  obtain ⟨n, hn⟩ : ∃ n, bs.length = n := ⟨_, rfl⟩
  have HN := Lib.hid hn
  rw [hn] at HB hbn
  have HM := Lib.hid hm
  clear hn hm
  have HTL := Lib.hid (fun j => show (bs.take j).flatten.length ≤ 4096 from by
    have h1 := HM.out
    rw [flat_take_drop bs j, List.length_append] at h1
    omega)
  rw [show (Value.slice a bs.length c) = .slice a n c by rw [HN.out]]
  go_enter Try.func78, Try.ntmps78
  go_wp2_with fail
  go_loopw [3, 11] (fun sz i wr => ∃ j : Nat, i = .int .i64 j ∧ j ≤ n ∧ sz = .int .i64 ((bs.take j).flatten.length) ∧ w = wr) (fun _ i _ => n - (intOf i).toNat)
  case atStart => exact ⟨0, rfl, by omega, rfl, rfl⟩
  case round =>
    obtain ⟨j, rfl, hj, rfl, rfl⟩ := hrel
    have ht := HTL.out j
    by_cases hjn : j < n
    · obtain ⟨l, hl⟩ := getElem?_ex (l := bs) (k := j) (by rw [HN.out]; exact hjn)
      have hmm := List.mem_of_getElem? hl
      have hl32 := HP.out.few l hmm
      obtain ⟨g, c2, b, cc, e, _, hgi, _, _, hlc, hcm⟩ := HB.out.at hl (HP.out.some l hmm)
      rw [HN.out] at e
      injection e with e1 e2 e3
      subst e1 e3
      have HS := Lib.hid (show (bs.take (j + 1)).flatten.length = (bs.take j).flatten.length + l.length by rw [flat_take_succ hl, List.length_append])
      obtain ⟨n2, hn2⟩ : ∃ n2, l.length = n2 := ⟨_, rfl⟩
      rw [hn2] at hgi hlc hl32 HS
      obtain ⟨s, hs⟩ : ∃ s, (bs.take j).flatten.length = s := ⟨_, rfl⟩
      rw [hs] at HS ht ⊢
      clear hn2 hl hmm hs
      have i1 : (0 : Int) ≤ (j : Int) := by omega
      have i2 : (j : Int) < (n : Int) := by omega
      have i3 : ¬ ((s : Int) + (n2 : Int) < 0) := by omega
      go_wp2_with fail
      refine ⟨⟨j + 1, by go_num, by omega, by rw [HS.out]; go_num, trivial⟩, by simp [intOf]; omega⟩
    · have : j = n := by omega
      subst this
      rw [List.take_of_length_le (by rw [HN.out]; exact Nat.le_refl _)] at ht ⊢
      obtain ⟨s, hs⟩ : ∃ s, bs.flatten.length = s := ⟨_, rfl⟩
      rw [hs] at ht ⊢
      clear hs
      go_wp2_with fail
      (with_reducible refine (growS_any s _ (by omega)).mono ?_)
      rintro e w1 ⟨v1, rfl, o1, b1⟩
      have O1 := Lib.hid o1
      have B1 := Lib.hid b1
      have hz1 := b1.size
      clear o1 b1
      go_wp2_with fail
      go_loopw [6, 27] (fun ns i wr => ∃ k : Nat, i = .int .i64 k ∧ k ≤ j ∧ wr.ownsRow w.heap.size 24 2 ns (bs.take k).flatten.length ((bs.take k).flatten.flatMap pairF) ∧ Below w.heap.size w wr) (fun _ i _ => j - (intOf i).toNat)
      case atStart => exact ⟨0, rfl, by omega, O1.out, B1.out⟩
      case round =>
        obtain ⟨k, rfl, hk, ho, hbr⟩ := hrel
        have HO := Lib.hid ho
        have BR := Lib.hid hbr
        have hzr := hbr.size
        have ht := HTL.out k
        clear ho hbr
        by_cases hkn : k < j
        · obtain ⟨l, hl⟩ := getElem?_ex (l := bs) (k := k) (by rw [HN.out]; exact hkn)
          have hmm := List.mem_of_getElem? hl
          have hl32 := HP.out.few l hmm
          have HBR := Lib.hid (HB.out.below BR.out)
          obtain ⟨g, c2, b, cc, e, _, hgi, _, hri, hlc, hcm⟩ := HBR.out.at hl (HP.out.some l hmm)
          rw [HN.out] at e
          injection e with e1 e2 e3
          subst e1 e3
          have HPR := Lib.hid (own_pairs hri rfl (by omega))
          have HS := Lib.hid (show (bs.take (k + 1)).flatten = (bs.take k).flatten ++ l from flat_take_succ hl)
          have i1 : (0 : Int) ≤ (k : Int) := by omega
          have i2 : (k : Int) < (j : Int) := by omega
          clear hl hmm hri HBR
          obtain ⟨n2, hn2⟩ : ∃ n2, l.length = n2 := ⟨_, rfl⟩
          rw [hn2] at hgi hlc hl32 HPR
          have HN2 := Lib.hid hn2
          obtain ⟨s2, hs2⟩ : ∃ s, (bs.take k).flatten.length = s := ⟨_, rfl⟩
          have HS2 := Lib.hid hs2
          rw [hs2] at HO ht
          clear hn2 hs2
          go_wp2_with (at_builtin; go_must (refine appPairs rfl _ _ 28 rfl Try.underlying28 eiScore w.heap.size (by rfl) HO.out (by rfl) HPR.out (by rw [HN2.out]; omega) hzr ?_))
          intro v5 w5 hown5 hb5 _
          have OWN5 := Lib.hid hown5
          have B5 := Lib.hid (below_tr BR.out hb5)
          clear hown5 hb5
          go_wp2_with fail
          refine ⟨⟨k + 1, by go_num, by omega, ?_, B5.out⟩, by simp [intOf]; omega⟩
          have h := OWN5.out
          rw [← List.flatMap_append, ← HS.out, ← HS2.out, ← List.length_append, ← HS.out] at h
          exact h
        · have : k = j := by omega
          subst this
          rw [List.take_of_length_le (by rw [HN.out]; exact Nat.le_refl _)] at HO ht
          go_wp2_with fail
          go_ret
          exact ⟨_, rfl, own_pairs HO.out rfl (by omega), BR.out⟩

set_option maxRecDepth 100000 in
set_option maxHeartbeats 4000000 in
theorem all_any (P : Nat) (v : Value) (vs : List Value) (bs : List (List (Int × Int))) (M : Nat) (w : World) (h : BagAt w P v vs bs M) (hp : BagP bs) :
    Calls Try.prog 19 #[.pointer (some ⟨P, 0, none⟩)] w fun e w' => ∃ v', e = .returned v' ∧ PairsR w' v' bs.flatten ∧ Below w.heap.size w w' := by
  have HC := Lib.hid (concat_any P v vs bs M w h hp)
  have c0 := h.c0
  have hlt := h.lt
  clear h hp
  go_enter Try.func19, Try.ntmps19
  go_wp2_with fail
  (with_reducible refine HC.out.mono ?_)
  rintro e w1 ⟨v1, rfl, p1, b1⟩
  have P1 := Lib.hid p1
  have B1 := Lib.hid b1
  clear p1 b1
  go_wp2_with fail
  go_ret
  exact ⟨_, rfl, P1.out, B1.out⟩
end Go.Proofs.Ytjmjnkilgoelbaa

namespace Go.Proofs.Ytjmjnkilgoelbaa
open Go.RowKit

set_option maxRecDepth 100000 in
set_option maxHeartbeats 4000000 in
theorem kth_bad (P : Nat) (v : Value) (vs : List Value) (bs : List (List (Int × Int))) (M : Nat) (k : Int) (w : World) (h : BagAt w P v vs bs M) (hk : k < 1 ∨ k > M) :
    Calls Try.prog 22 #[.pointer (some ⟨P, 0, none⟩), .int .i64 k] w fun e w' => e = .returned (.tuple #[.agg #[.int .i64 0, .int .i64 0], .int .i64 1]) ∧ Below w.heap.size w w' := by
  have c1 := h.c1
  have hlt := h.lt
  clear h
  go_enter Try.func22, Try.ntmps22
  by_cases h1 : k < 1
  · go_wp2_with fail
    exact bodyPost_ret (v := .tuple #[.agg #[.int .i64 0, .int .i64 0], .int .i64 1]) (by simp [results, Try.results22, go_sem]) rfl ⟨rfl, by (repeat (first | with_reducible exact Below.refl _ _ | with_reducible refine Bs ?_ | with_reducible refine Ba ?_ | with_reducible refine Bd ?_ | with_reducible refine Bn ?_))⟩
  · have h2 : k > M := by omega
    go_wp2_with fail
    exact bodyPost_ret (v := .tuple #[.agg #[.int .i64 0, .int .i64 0], .int .i64 1]) (by simp [results, Try.results22, go_sem]) rfl ⟨rfl, by (repeat (first | with_reducible exact Below.refl _ _ | with_reducible refine Bs ?_ | with_reducible refine Ba ?_ | with_reducible refine Bd ?_ | with_reducible refine Bn ?_))⟩

set_option maxRecDepth 100000 in
set_option maxHeartbeats 4000000 in
theorem kth_any (P : Nat) (v : Value) (vs : List Value) (bs : List (List (Int × Int))) (M : Nat) (k : Int) (w : World) (h : BagAt w P v vs bs M) (hM : bs.flatten.length = M) (h1 : 1 ≤ k) (h2 : k ≤ M) (hp : BagP bs) {s : Int × Int} (hs : bs.flatten[k.toNat - 1]? = some s) :
    Calls Try.prog 22 #[.pointer (some ⟨P, 0, none⟩), .int .i64 k] w fun e w' => e = .returned (.tuple #[.agg #[.int .i64 s.1, .int .i64 s.2], .int .i64 0]) ∧ Below w.heap.size w w' := by
  have c0 := h.c0
  have c1 := h.c1
  have hlt := h.lt
  have HB := Lib.hid h
  have HP := Lib.hid hp
  have hb := bags_len hp.some
  have hm := hp.most
  rw [hM] at hm hb
  obtain ⟨a, c, rfl⟩ : ∃ a c, v = .slice a bs.length c := by
    rcases h.row.2 with ⟨rfl, h1⟩ | ⟨g, c, _, rfl, _⟩
    · exact ⟨none, 0, by rw [h1]⟩
    · exact ⟨_, _, rfl⟩
  clear h hp
  obtain ⟨n, hn⟩ : ∃ n, bs.length = n := ⟨_, rfl⟩
  have HN := Lib.hid hn
  rw [hn] at c0 HB hb
  clear hn
  have HS := Lib.hid hs
  clear hs hM
  have h3 : ¬ k < 1 := by omega
  have h4 : ¬ (M : Int) < k := by omega
  go_enter Try.func22, Try.ntmps22
  go_wp2_with fail
  go_loopw [6, 32] (fun left i wr => ∃ x j : Nat, left = .int .i64 x ∧ i = .int .i64 j ∧ j ≤ n ∧ x ≤ 4096 ∧ (bs.drop j).flatten[x]? = some s ∧ w.alloc (.cells #[.int .i64 0, .int .i64 0] 24) = wr) (fun _ i _ => n - (intOf i).toNat)
  case atStart => exact ⟨k.toNat - 1, 0, by congr 1; omega, rfl, by omega, by omega, HS.out, rfl⟩
  case round =>
    obtain ⟨x, j, rfl, rfl, hj, hx4, hxs, rfl⟩ := hrel
    have HX := Lib.hid hxs
    clear hxs
    by_cases hjn : j < n
    · obtain ⟨l, hl⟩ := getElem?_ex (l := bs) (k := j) (by rw [HN.out]; exact hjn)
      have hmm := List.mem_of_getElem? hl
      have hl0 := HP.out.some l hmm
      have hl32 := HP.out.few l hmm
      have hsplit : (bs.drop j).flatten = l ++ (bs.drop (j + 1)).flatten := by
        obtain ⟨q1, q2⟩ := List.getElem?_eq_some_iff.1 hl
        rw [List.drop_eq_getElem_cons q1, q2, List.flatten_cons]
      have HB2 := Lib.hid (HB.out.below (show Below w.heap.size w (w.alloc (.cells #[.int .i64 0, .int .i64 0] 24)) by (repeat (first | with_reducible exact Below.refl _ _ | with_reducible refine Bs ?_ | with_reducible refine Ba ?_ | with_reducible refine Bd ?_ | with_reducible refine Bn ?_))))
      obtain ⟨g, c2, b, cc, e, _, hgi, hvi, hri, hlc, hcm⟩ := HB2.out.at hl hl0
      rw [HN.out] at e
      injection e with e1 e2 e3
      subst e1 e3
      have hlpos := List.length_pos_iff.2 hl0
      have HPR := Lib.hid (own_pairs hri rfl (by omega))
      obtain ⟨n2, hn2⟩ : ∃ n2, l.length = n2 := ⟨_, rfl⟩
      have HN2 := Lib.hid hn2
      have HL := Lib.hid hsplit
      rw [hn2] at hgi hlc hl32 HPR hlpos
      have i1 : (0 : Int) ≤ (j : Int) := by omega
      have i2 : (j : Int) < (n : Int) := by omega
      clear hvi hri hl0 hn2 hl hmm hsplit
      by_cases hxl : x < n2
      · have hlx : l[x]? = some s := by
          have := HX.out
          rw [HL.out, List.getElem?_append_left (by rw [HN2.out]; exact hxl)] at this
          exact this
        obtain ⟨hb1, hc0, hc1⟩ := HPR.out.at hlx
        rw [Nat.zero_add] at hc0 hc1
        have i3 : (x : Int) < (n2 : Int) := by omega
        go_wp2_with fail
        exact bodyPost_ret (v := .tuple #[.agg #[.int .i64 s.1, .int .i64 s.2], .int .i64 0]) (by simp [results, Try.results22, go_sem]) rfl ⟨rfl, by (repeat (first | with_reducible exact Below.refl _ _ | with_reducible refine Bs ?_ | with_reducible refine Ba ?_ | with_reducible refine Bd ?_ | with_reducible refine Bn ?_))⟩
      · have i3 : ¬ (x : Int) < (n2 : Int) := by omega
        go_wp2_with fail
        refine ⟨⟨x - n2, j + 1, by congr 1; omega, by congr 1, by omega, by omega, ?_, trivial⟩, ?_⟩
        · have := HX.out
          rw [HL.out, List.getElem?_append_right (by rw [HN2.out]; omega), HN2.out] at this
          exact this
        · simp [intOf]; omega
    · have : j = n := by omega
      subst this
      exfalso
      have := HX.out
      rw [List.drop_eq_nil_of_le (by rw [HN.out]; exact Nat.le_refl _)] at this
      cases this
end Go.Proofs.Ytjmjnkilgoelbaa
