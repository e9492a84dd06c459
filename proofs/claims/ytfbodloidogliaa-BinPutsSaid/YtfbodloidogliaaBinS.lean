/-
  Walk of copseref21's reader of lists.
-/
import Derived.Test.YtfbodloidogliaaBinR
namespace Go.Proofs.Ytfbodloidogliaa
open Go.RowKit

theorem fresh_nil (B n c : Nat) : Fresh B (.slice none n c) := fun a n c e _ => by cases e

theorem own_keep {w w' : World} {base e size n : Nat} {v : Value} {xs : List Value} (h : w.ownsRow base e size v n xs) (hk : ∀ g, base ≤ g → g < w.heap.size → w'.heap[g]? = w.heap[g]?) : w'.ownsRow base e size v n xs := by
  have hlt := h.lt
  refine ⟨h.1, ?_⟩
  rcases h.2 with h1 | ⟨g, cap, cur, rfl, h2, h3, h4⟩
  · exact .inl h1
  · exact .inr ⟨g, cap, cur, rfl, h2, (hk g (hlt g rfl).1 (hlt g rfl).2).trans h3, h4⟩

theorem below_tr {B : Nat} {a b c : World} (h : Below B a b) (k : Below B b c) : Below B a c := h.trans k

theorem OwnI.app' {w : World} {base : Nat} {v' : Value} {acc : List Int} {x : Int} (h : w.ownsRow base 3 1 v' (acc.length + 1) (acc.map (Value.int .i64) ++ (#[Value.int .i64 x] : Array Value).toList)) : w.ownsRow base 3 1 v' (acc ++ [x]).length ((acc ++ [x]).map (Value.int .i64)) := by simpa using h

/-- A list is being read by value: w1 the world before the loop, S the block of the reader that moves. -/
def InS (w1 : World) (S : Nat) (v : Value) (l : List Int) (a n : Nat) (X : List Int × Nat × Int) (out i : Value) (wr : World) : Prop :=
  ∃ (k p : Nat) (e : Int) (acc : List Int), i = .int .i64 k ∧ k ≤ n ∧ wr.ownsRow (S + 1) 3 1 out acc.length (acc.map (Value.int .i64)) ∧ acc.length ≤ p + 1 ∧ p ≤ l.length ∧
    wr.cell? ⟨S, 0, none⟩ = some v ∧ wr.cell? ⟨S, 1, none⟩ = some (.int .i64 p) ∧ wr.cell? ⟨S, 2, none⟩ = some (.int .i64 e) ∧
    wr.frozen? ⟨S, 0, none⟩ = false ∧ wr.frozen? ⟨S, 1, none⟩ = false ∧ wr.frozen? ⟨S, 2, none⟩ = false ∧ S < wr.heap.size ∧ Below S w1 wr ∧
    ((e = 0 ∧ acc.length ≤ p ∧ rdIs l a (n - k) p acc = X) ∨ (e ≠ 0 ∧ X = ([], a, e)))

set_option maxRecDepth 100000 in
set_option maxHeartbeats 4000000 in
theorem rReadInts_all (v : Value) (l : List Int) (a : Nat) (e0 most : Int) (w : World) (h : Ints .u8 w v l) (hb : AllB l) (ha : a ≤ l.length) (hl : l.length ≤ 100000) (hm : Ok64 most) :
    Calls Try.prog 101 #[.agg #[v, .int .i64 a, .int .i64 e0], .int .i64 most] w fun e w' => ∃ v', RefR w v (rdInts' l a e0 most).2.1 (rdInts' l a e0 most).2.2 v' e w' ∧ Ints .i64 w' v' (rdInts' l a e0 most).1 ∧ Fresh w.heap.size v' := by
  have hN := fun W hW => rReadN_all v l a e0 most W hW hb ha hl hm
  have hfc := rdN'_facts l hb a e0 most
  obtain ⟨X, hX⟩ : ∃ X, rdInts' l a e0 most = X := ⟨_, rfl⟩
  rw [hX]
  rw [rdInts'_of] at hX
  generalize rdN' l a e0 most = r at *
  obtain ⟨n, a', e'⟩ := r
  simp only at hN hfc hX ⊢
  have HN := Lib.hid hN
  have HX := Lib.hid hX
  have HF := Lib.hid hfc
  have hn64 : (n : Int) ≤ 9223372036854775807 := by
    unfold Ok64 at hm
    by_cases he : e' = 0
    · have := (hfc.2 he).2.2; omega
    · have := (hfc.1 he).1; omega
  have ha' : a' ≤ l.length := by
    by_cases he : e' = 0
    · exact (hfc.2 he).2.1
    · have := (hfc.1 he).2; omega
  have HI := Lib.hid (h.below (w' := (w.alloc (.cells #[v, .int .i64 a, .int .i64 e0] 77)).alloc (.cells #[.slice none 0 0, .int .i64 0, .int .i64 0] 77)) (by (repeat (first | with_reducible exact Below.refl _ _ | ((with_reducible refine Below.setCell ?_ ?_ _); rotate_left; (focus (first | omega | (simp; done) | (simp; omega)))) | ((with_reducible refine Below.alloc ?_ ?_ _); rotate_left; (focus (first | omega | (simp; done) | (simp; omega)))) | (with_reducible refine Below.drew ?_) | (with_reducible refine below_drewN ?_ _)))))
  have H0 := Lib.hid h
  obtain ⟨ad, c, rfl, g1, g2, g3, _⟩ := h
  clear hN hX hfc
  go_enter Try.func101, Try.ntmps101
  go_wp2_with fail
  refine (HN.out _ HI.out).mono ?_
  rintro e w1 ⟨rfl, hbw⟩
  have c0_0 := hbw.cell (p := ⟨w.heap.size, 0, none⟩) (by first | omega | (simp <;> omega)); have f0_0 := hbw.frozen (p := ⟨w.heap.size, 0, none⟩) (by first | omega | (simp <;> omega)); have c0_1 := hbw.cell (p := ⟨w.heap.size, 1, none⟩) (by first | omega | (simp <;> omega)); have f0_1 := hbw.frozen (p := ⟨w.heap.size, 1, none⟩) (by first | omega | (simp <;> omega)); have c0_2 := hbw.cell (p := ⟨w.heap.size, 2, none⟩) (by first | omega | (simp <;> omega)); have f0_2 := hbw.frozen (p := ⟨w.heap.size, 2, none⟩) (by first | omega | (simp <;> omega)); have c1_0 := hbw.cell (p := ⟨w.heap.size + 1, 0, none⟩) (by first | omega | (simp <;> omega)); have f1_0 := hbw.frozen (p := ⟨w.heap.size + 1, 0, none⟩) (by first | omega | (simp <;> omega)); have c1_1 := hbw.cell (p := ⟨w.heap.size + 1, 1, none⟩) (by first | omega | (simp <;> omega)); have f1_1 := hbw.frozen (p := ⟨w.heap.size + 1, 1, none⟩) (by first | omega | (simp <;> omega)); have c1_2 := hbw.cell (p := ⟨w.heap.size + 1, 2, none⟩) (by first | omega | (simp <;> omega)); have f1_2 := hbw.frozen (p := ⟨w.heap.size + 1, 2, none⟩) (by first | omega | (simp <;> omega))
  have hz0 : w.heap.size < w1.heap.size := (by have := hbw.size; first | omega | (simp at this; omega)); have hy0 : w.heap.size ≠ w1.heap.size := (by omega); have hx0 : w1.heap.size ≠ w.heap.size := (by omega); have hz1 : w.heap.size + 1 < w1.heap.size := (by have := hbw.size; first | omega | (simp at this; omega)); have hy1 : w.heap.size + 1 ≠ w1.heap.size := (by omega); have hx1 : w1.heap.size ≠ w.heap.size + 1 := (by omega)
  have HB1 := Lib.hid hbw
  have I1 := Lib.hid (HI.out.below hbw)
  go_wp2_with fail
  go_loopw [8, 9, 10, 11] (fun out i _ _ wr => InS w1 w1.heap.size (.slice ad l.length c) l a n X out i wr) (fun _ i _ _ _ => n - (intOf i).toNat)
  case atStart =>
    refine ⟨0, a', e', [], rfl, Nat.zero_le _, World.ownsRow_nil _ _ _ _, by simp, ha', by go_simp, by go_simp, by go_simp, by go_simp, by go_simp, by go_simp, by simp, by (repeat (first | with_reducible exact Below.refl _ _ | ((with_reducible refine Below.setCell ?_ ?_ _); rotate_left; (focus (first | omega | (simp; done) | (simp; omega)))) | ((with_reducible refine Below.alloc ?_ ?_ _); rotate_left; (focus (first | omega | (simp; done) | (simp; omega)))) | (with_reducible refine Below.drew ?_) | (with_reducible refine below_drewN ?_ _))), ?_⟩
    by_cases he : e' = 0
    · have hx := HX.out
      rw [if_neg (by omega)] at hx
      exact .inl ⟨he, by simp, by simpa using hx⟩
    · have hx := HX.out
      rw [if_pos he] at hx
      exact .inr ⟨he, hx.symm⟩
  case round =>
    obtain ⟨k, p, e1, acc, rfl, hk, ho, hap, hpl, d0, d1, d2, g0, g1, g2, hsz, hb1, hcase⟩ := hrel
    have HO := Lib.hid ho; have HC := Lib.hid hcase; have HBR := Lib.hid hb1
    clear ho hcase hb1
    by_cases hlt : k < n
    · by_cases he : e1 = 0
      · subst he
        have hlt' : (k : Int) < n := by omega
        have hI := rReadI_all (.slice ad l.length c) l p 0 wr (I1.out.below HBR.out) hb hpl hl
        rw [rdI', if_pos rfl] at hI
        have hx : acc.length ≤ p ∧ rdIs l a (n - k) p acc = X := by
          rcases HC.out with ⟨_, h1, h2⟩ | ⟨h1, _⟩
          · exact ⟨h1, h2⟩
          · exact absurd rfl h1
        have hxx := hx.2
        rw [show n - k = (n - (k + 1)) + 1 by omega, rdIs] at hxx
        have hif := rdI_facts l hb p
        generalize rdI l p = r at *
        obtain ⟨x, p', e2⟩ := r
        simp only at hI hif hxx
        have HI2 := Lib.hid hI; have HXX := Lib.hid hxx; have HIF := Lib.hid hif; have HAC := Lib.hid hx.1
        clear hI hxx hif hx HC
        go_wp2_with fail
        refine HI2.out.mono ?_
        rintro e w2 ⟨rfl, hb2⟩
        have c0_0 := hb2.cell (p := ⟨w1.heap.size, 0, none⟩) (by first | omega | (simp <;> omega)); have f0_0 := hb2.frozen (p := ⟨w1.heap.size, 0, none⟩) (by first | omega | (simp <;> omega)); have c0_1 := hb2.cell (p := ⟨w1.heap.size, 1, none⟩) (by first | omega | (simp <;> omega)); have f0_1 := hb2.frozen (p := ⟨w1.heap.size, 1, none⟩) (by first | omega | (simp <;> omega)); have c0_2 := hb2.cell (p := ⟨w1.heap.size, 2, none⟩) (by first | omega | (simp <;> omega)); have f0_2 := hb2.frozen (p := ⟨w1.heap.size, 2, none⟩) (by first | omega | (simp <;> omega))
        have hz0 : w1.heap.size < w2.heap.size := (by have := hb2.size; first | omega | (simp at this; omega)); have hy0 : w1.heap.size ≠ w2.heap.size := (by omega); have hx0 : w2.heap.size ≠ w1.heap.size := (by omega)
        have HO2 := Lib.hid (own_keep HO.out fun g _ h2 => hb2.block g h2)
        have HB2 := Lib.hid (HBR.out.trans (hb2.mono (Nat.le_of_lt hsz)))
        have HS2 := Lib.hid hb2.size
        go_wp2_with (at_builtin; go_must (refine app1 rfl _ _ 22 rfl Try.underlying22 eiInt (w1.heap.size + 1) (by rfl) (own_keep HO2.out ?_) (C := 1) (by simp [Act.eval]) rfl (by simp [Value.oneCell']) (by omega) (by simp; omega) ?_))
        · intro g h1 h2
          repeat (first | exact rfl | refine (Below.heap_setCell _ _ _ _ (by first | omega | (simp; omega))).trans ?_ | refine (Below.heap_alloc _ _ _ (by first | omega | (simp; omega))).trans ?_)
        intro v3 w3 ho3 hb3 hg3
        have c0_0 := hb3.cell (p := ⟨w1.heap.size, 0, none⟩) (by first | omega | (simp <;> omega)); have f0_0 := hb3.frozen (p := ⟨w1.heap.size, 0, none⟩) (by first | omega | (simp <;> omega)); have c0_1 := hb3.cell (p := ⟨w1.heap.size, 1, none⟩) (by first | omega | (simp <;> omega)); have f0_1 := hb3.frozen (p := ⟨w1.heap.size, 1, none⟩) (by first | omega | (simp <;> omega)); have c0_2 := hb3.cell (p := ⟨w1.heap.size, 2, none⟩) (by first | omega | (simp <;> omega)); have f0_2 := hb3.frozen (p := ⟨w1.heap.size, 2, none⟩) (by first | omega | (simp <;> omega))
        have HO3 := Lib.hid (OwnI.app' ho3)
        have hsz3 : w1.heap.size < w3.heap.size := by have := hb3.size; simp at this; omega
        have HB3 := Lib.hid (below_tr (by (repeat (first | with_reducible exact Below.refl _ _ | ((with_reducible refine Below.setCell ?_ ?_ _); rotate_left; (focus (first | omega | (simp; done) | (simp; omega)))) | ((with_reducible refine Below.alloc ?_ ?_ _); rotate_left; (focus (first | omega | (simp; done) | (simp; omega)))) | (with_reducible refine Below.drew ?_) | (with_reducible refine below_drewN ?_ _) | ((with_reducible refine Below.trans ?_ (Below.mono HB2.out ?_)); rotate_left; (focus (first | omega | (simp; done) | (simp; omega))))))) (hb3.mono (Nat.le_succ _)) : Below w1.heap.size w1 w3)
        clear ho3 hb3
        have hap2 : (acc ++ [x]).length ≤ p' + 1 ∧ p' ≤ l.length ∧ ((e2 = 0 ∧ (acc ++ [x]).length ≤ p' ∧ rdIs l a (n - (k + 1)) p' (acc ++ [x]) = X) ∨ (e2 ≠ 0 ∧ X = ([], a, e2))) := by
          have h1 := HAC.out; have h2 := HIF.out; have h3 := HXX.out
          by_cases he : e2 = 0
          · have := h2.2 he
            rw [if_neg (by omega)] at h3
            exact ⟨by simp; omega, this.2, .inl ⟨he, by simp; omega, h3⟩⟩
          · have := (h2.1 he).2
            rw [if_pos he] at h3
            exact ⟨by simp; omega, by omega, .inr ⟨he, h3.symm⟩⟩
        have HAP := Lib.hid hap2
        clear hap2
        go_wp2
        go_roundw
        case rel => exact ⟨k + 1, p', e2, acc ++ [x], by go_num, by omega, HO3.out, HAP.out.1, HAP.out.2.1, by go_simp, by go_simp, by go_simp, by go_simp, by go_simp, by go_simp, hsz3, HB3.out, HAP.out.2.2⟩
        case measure => simp [intOf] <;> omega
      · have hlt' : (k : Int) < n := by omega
        have hx : X = ([], a, e1) := by
          rcases HC.out with ⟨h1, _⟩ | ⟨_, h1⟩
          · exact absurd h1 he
          · exact h1
        subst hx
        have hne : (e1 != 0) = true := by simpa using he
        have heq : (e1 == 0) = false := by simpa using he
        have hHB := HBR.out
        have c0_0 := hHB.cell (p := ⟨w.heap.size, 0, none⟩) (by first | omega | (simp <;> omega)); have f0_0 := hHB.frozen (p := ⟨w.heap.size, 0, none⟩) (by first | omega | (simp <;> omega)); have c0_1 := hHB.cell (p := ⟨w.heap.size, 1, none⟩) (by first | omega | (simp <;> omega)); have f0_1 := hHB.frozen (p := ⟨w.heap.size, 1, none⟩) (by first | omega | (simp <;> omega)); have c0_2 := hHB.cell (p := ⟨w.heap.size, 2, none⟩) (by first | omega | (simp <;> omega)); have f0_2 := hHB.frozen (p := ⟨w.heap.size, 2, none⟩) (by first | omega | (simp <;> omega)); have c1_0 := hHB.cell (p := ⟨w.heap.size + 1, 0, none⟩) (by first | omega | (simp <;> omega)); have f1_0 := hHB.frozen (p := ⟨w.heap.size + 1, 0, none⟩) (by first | omega | (simp <;> omega)); have c1_1 := hHB.cell (p := ⟨w.heap.size + 1, 1, none⟩) (by first | omega | (simp <;> omega)); have f1_1 := hHB.frozen (p := ⟨w.heap.size + 1, 1, none⟩) (by first | omega | (simp <;> omega)); have c1_2 := hHB.cell (p := ⟨w.heap.size + 1, 2, none⟩) (by first | omega | (simp <;> omega)); have f1_2 := hHB.frozen (p := ⟨w.heap.size + 1, 2, none⟩) (by first | omega | (simp <;> omega))
        clear he HX HC
        have hz9 : w.heap.size + 1 < wr.heap.size := by omega
        go_wp2_with (go_at_call 106; refine (rfail_any _ ad l.length c rfl a e0 e1 _).mono ?_; rintro e w2 ⟨rfl, hbw2⟩; have c0_0 := hbw2.cell (p := ⟨w.heap.size, 0, none⟩) (by first | omega | (simp <;> omega)); have f0_0 := hbw2.frozen (p := ⟨w.heap.size, 0, none⟩) (by first | omega | (simp <;> omega)); have c0_1 := hbw2.cell (p := ⟨w.heap.size, 1, none⟩) (by first | omega | (simp <;> omega)); have f0_1 := hbw2.frozen (p := ⟨w.heap.size, 1, none⟩) (by first | omega | (simp <;> omega)); have c0_2 := hbw2.cell (p := ⟨w.heap.size, 2, none⟩) (by first | omega | (simp <;> omega)); have f0_2 := hbw2.frozen (p := ⟨w.heap.size, 2, none⟩) (by first | omega | (simp <;> omega)); have c1_0 := hbw2.cell (p := ⟨w.heap.size + 1, 0, none⟩) (by first | omega | (simp <;> omega)); have f1_0 := hbw2.frozen (p := ⟨w.heap.size + 1, 0, none⟩) (by first | omega | (simp <;> omega)); have c1_1 := hbw2.cell (p := ⟨w.heap.size + 1, 1, none⟩) (by first | omega | (simp <;> omega)); have f1_1 := hbw2.frozen (p := ⟨w.heap.size + 1, 1, none⟩) (by first | omega | (simp <;> omega)); have c1_2 := hbw2.cell (p := ⟨w.heap.size + 1, 2, none⟩) (by first | omega | (simp <;> omega)); have f1_2 := hbw2.frozen (p := ⟨w.heap.size + 1, 2, none⟩) (by first | omega | (simp <;> omega)))
        refine bodyPost_ret (v := .tuple #[.agg #[.slice ad l.length c, .int .i64 a, .int .i64 e1], .slice none 0 0]) (by simp [results, Try.results101, go_sem, *]) rfl ⟨_, ⟨rfl, ?_⟩, ints_nil _ _ _ _ (by omega), fresh_nil _ _ _⟩
        (repeat (first | with_reducible exact Below.refl _ _ | ((with_reducible refine Below.setCell ?_ ?_ _); rotate_left; (focus (first | omega | (simp; done) | (simp; omega)))) | ((with_reducible refine Below.alloc ?_ ?_ _); rotate_left; (focus (first | omega | (simp; done) | (simp; omega)))) | (with_reducible refine Below.drew ?_) | (with_reducible refine below_drewN ?_ _) | ((with_reducible refine Below.trans ?_ (Below.mono hbw2 ?_)); rotate_left; (focus (first | omega | (simp; done) | (simp; omega)))) | ((with_reducible refine Below.trans ?_ (Below.mono hHB ?_)); rotate_left; (focus (first | omega | (simp; done) | (simp; omega)))) | ((with_reducible refine Below.trans ?_ (Below.mono HB1.out ?_)); rotate_left; (focus (first | omega | (simp; done) | (simp; omega))))))
    · obtain rfl : k = n := by omega
      by_cases he : e1 = 0
      · subst he
        have hx : X = (acc, p, 0) := by
          rcases HC.out with ⟨_, _, h1⟩ | ⟨h1, _⟩
          · rw [Nat.sub_self, rdIs] at h1; exact h1.symm
          · exact absurd rfl h1
        subst hx
        have hHB := HBR.out
        have c0_0 := hHB.cell (p := ⟨w.heap.size, 0, none⟩) (by first | omega | (simp <;> omega)); have f0_0 := hHB.frozen (p := ⟨w.heap.size, 0, none⟩) (by first | omega | (simp <;> omega)); have c0_1 := hHB.cell (p := ⟨w.heap.size, 1, none⟩) (by first | omega | (simp <;> omega)); have f0_1 := hHB.frozen (p := ⟨w.heap.size, 1, none⟩) (by first | omega | (simp <;> omega)); have c0_2 := hHB.cell (p := ⟨w.heap.size, 2, none⟩) (by first | omega | (simp <;> omega)); have f0_2 := hHB.frozen (p := ⟨w.heap.size, 2, none⟩) (by first | omega | (simp <;> omega)); have c1_0 := hHB.cell (p := ⟨w.heap.size + 1, 0, none⟩) (by first | omega | (simp <;> omega)); have f1_0 := hHB.frozen (p := ⟨w.heap.size + 1, 0, none⟩) (by first | omega | (simp <;> omega)); have c1_1 := hHB.cell (p := ⟨w.heap.size + 1, 1, none⟩) (by first | omega | (simp <;> omega)); have f1_1 := hHB.frozen (p := ⟨w.heap.size + 1, 1, none⟩) (by first | omega | (simp <;> omega)); have c1_2 := hHB.cell (p := ⟨w.heap.size + 1, 2, none⟩) (by first | omega | (simp <;> omega)); have f1_2 := hHB.frozen (p := ⟨w.heap.size + 1, 2, none⟩) (by first | omega | (simp <;> omega))
        clear HX HC
        have hz9 : w.heap.size + 1 < wr.heap.size := by omega
        have HOI := Lib.hid (Ints.own HO.out (by omega)).2
        obtain ⟨ad8, c8, hu8⟩ := HOI.out.shape
        subst hu8
        go_wp2
        refine bodyPost_ret (v := .tuple #[.agg #[.slice ad l.length c, .int .i64 p, .int .i64 0], .slice ad8 acc.length c8]) (by simp [results, Try.results101, go_sem, *]) rfl ((fun hk => ⟨_, ⟨rfl, ?_⟩, (Ints.own (own_keep HO.out hk) (by omega)).2, (Fresh.own (own_keep HO.out hk)).mono (by omega)⟩) ?_)
        · intro g h1 h2
          repeat (first | exact rfl | refine (Below.heap_setCell _ _ _ _ (by first | omega | (simp; omega))).trans ?_)
        · (repeat (first | with_reducible exact Below.refl _ _ | ((with_reducible refine Below.setCell ?_ ?_ _); rotate_left; (focus (first | omega | (simp; done) | (simp; omega)))) | ((with_reducible refine Below.alloc ?_ ?_ _); rotate_left; (focus (first | omega | (simp; done) | (simp; omega)))) | (with_reducible refine Below.drew ?_) | (with_reducible refine below_drewN ?_ _) | ((with_reducible refine Below.trans ?_ (Below.mono hHB ?_)); rotate_left; (focus (first | omega | (simp; done) | (simp; omega)))) | ((with_reducible refine Below.trans ?_ (Below.mono HB1.out ?_)); rotate_left; (focus (first | omega | (simp; done) | (simp; omega))))))
      · have hx : X = ([], a, e1) := by
          rcases HC.out with ⟨h1, _⟩ | ⟨_, h1⟩
          · exact absurd h1 he
          · exact h1
        subst hx
        have hne : (e1 != 0) = true := by simpa using he
        have heq : (e1 == 0) = false := by simpa using he
        have hHB := HBR.out
        have c0_0 := hHB.cell (p := ⟨w.heap.size, 0, none⟩) (by first | omega | (simp <;> omega)); have f0_0 := hHB.frozen (p := ⟨w.heap.size, 0, none⟩) (by first | omega | (simp <;> omega)); have c0_1 := hHB.cell (p := ⟨w.heap.size, 1, none⟩) (by first | omega | (simp <;> omega)); have f0_1 := hHB.frozen (p := ⟨w.heap.size, 1, none⟩) (by first | omega | (simp <;> omega)); have c0_2 := hHB.cell (p := ⟨w.heap.size, 2, none⟩) (by first | omega | (simp <;> omega)); have f0_2 := hHB.frozen (p := ⟨w.heap.size, 2, none⟩) (by first | omega | (simp <;> omega)); have c1_0 := hHB.cell (p := ⟨w.heap.size + 1, 0, none⟩) (by first | omega | (simp <;> omega)); have f1_0 := hHB.frozen (p := ⟨w.heap.size + 1, 0, none⟩) (by first | omega | (simp <;> omega)); have c1_1 := hHB.cell (p := ⟨w.heap.size + 1, 1, none⟩) (by first | omega | (simp <;> omega)); have f1_1 := hHB.frozen (p := ⟨w.heap.size + 1, 1, none⟩) (by first | omega | (simp <;> omega)); have c1_2 := hHB.cell (p := ⟨w.heap.size + 1, 2, none⟩) (by first | omega | (simp <;> omega)); have f1_2 := hHB.frozen (p := ⟨w.heap.size + 1, 2, none⟩) (by first | omega | (simp <;> omega))
        clear he HX HC
        have hz9 : w.heap.size + 1 < wr.heap.size := by omega
        go_wp2_with (go_at_call 106; refine (rfail_any _ ad l.length c rfl a e0 e1 _).mono ?_; rintro e w2 ⟨rfl, hbw2⟩; have c0_0 := hbw2.cell (p := ⟨w.heap.size, 0, none⟩) (by first | omega | (simp <;> omega)); have f0_0 := hbw2.frozen (p := ⟨w.heap.size, 0, none⟩) (by first | omega | (simp <;> omega)); have c0_1 := hbw2.cell (p := ⟨w.heap.size, 1, none⟩) (by first | omega | (simp <;> omega)); have f0_1 := hbw2.frozen (p := ⟨w.heap.size, 1, none⟩) (by first | omega | (simp <;> omega)); have c0_2 := hbw2.cell (p := ⟨w.heap.size, 2, none⟩) (by first | omega | (simp <;> omega)); have f0_2 := hbw2.frozen (p := ⟨w.heap.size, 2, none⟩) (by first | omega | (simp <;> omega)); have c1_0 := hbw2.cell (p := ⟨w.heap.size + 1, 0, none⟩) (by first | omega | (simp <;> omega)); have f1_0 := hbw2.frozen (p := ⟨w.heap.size + 1, 0, none⟩) (by first | omega | (simp <;> omega)); have c1_1 := hbw2.cell (p := ⟨w.heap.size + 1, 1, none⟩) (by first | omega | (simp <;> omega)); have f1_1 := hbw2.frozen (p := ⟨w.heap.size + 1, 1, none⟩) (by first | omega | (simp <;> omega)); have c1_2 := hbw2.cell (p := ⟨w.heap.size + 1, 2, none⟩) (by first | omega | (simp <;> omega)); have f1_2 := hbw2.frozen (p := ⟨w.heap.size + 1, 2, none⟩) (by first | omega | (simp <;> omega)))
        refine bodyPost_ret (v := .tuple #[.agg #[.slice ad l.length c, .int .i64 a, .int .i64 e1], .slice none 0 0]) (by simp [results, Try.results101, go_sem, *]) rfl ⟨_, ⟨rfl, ?_⟩, ints_nil _ _ _ _ (by omega), fresh_nil _ _ _⟩
        (repeat (first | with_reducible exact Below.refl _ _ | ((with_reducible refine Below.setCell ?_ ?_ _); rotate_left; (focus (first | omega | (simp; done) | (simp; omega)))) | ((with_reducible refine Below.alloc ?_ ?_ _); rotate_left; (focus (first | omega | (simp; done) | (simp; omega)))) | (with_reducible refine Below.drew ?_) | (with_reducible refine below_drewN ?_ _) | ((with_reducible refine Below.trans ?_ (Below.mono hbw2 ?_)); rotate_left; (focus (first | omega | (simp; done) | (simp; omega)))) | ((with_reducible refine Below.trans ?_ (Below.mono hHB ?_)); rotate_left; (focus (first | omega | (simp; done) | (simp; omega)))) | ((with_reducible refine Below.trans ?_ (Below.mono HB1.out ?_)); rotate_left; (focus (first | omega | (simp; done) | (simp; omega))))))
end Go.Proofs.Ytfbodloidogliaa
