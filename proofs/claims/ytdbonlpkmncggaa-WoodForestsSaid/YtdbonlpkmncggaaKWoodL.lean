/-
  WoodL: Walk of the reference's GetForest.
-/
import Derived.Test.YtdbonlpkmncggaaKWoodJ
import Derived.Test.YtdbonlpkmncggaaKWoodK
import Derived.Test.YtdbonlpkmncggaaKForG
namespace Go.Proofs.Ytdbonlpkmncggaa
open Go.RowKit

set_option maxRecDepth 100000 in
set_option maxHeartbeats 16000000 in
theorem rgetForest_any (v : Value) (l : List Int) (a : Nat) (e : Int) (w : World) (h : Ints .u8 w v l) (hb : AllB l) (ha : a ≤ l.length) (hl : l.length ≤ 100000) :
    Calls Try.prog 45 #[.agg #[v, .int .i64 (a : Int), .int .i64 e]] w fun e' w' => ∃ fv, e' = .returned (.tuple #[.agg #[v, .int .i64 ((gF l a e).2.1 : Int), .int .i64 (gF l a e).2.2], fv]) ∧ Below w.heap.size w w' ∧ GrownsF w.heap.size w' fv (gF l a e).1 := by
  obtain ⟨va, vc, rfl⟩ := h.shape
  have VI := Lib.hid h
  have HB := Lib.hid hb
  obtain ⟨⟨n, p, e1⟩, h1⟩ : ∃ r, rdN' l a e 16 = r := ⟨_, rfl⟩
  have H1 := Lib.hid h1
  have hp : p ≤ l.length := by have := rdN'_le hb ha e 16; rw [h1] at this; exact this
  have HP := Lib.hid hp
  have hf := rdN'_facts l hb a e 16
  rw [h1] at hf
  have hn16 : n ≤ 16 := by
    by_cases he : e1 = 0
    · have := (hf.2 he).2.2; simp only at this; omega
    · have := (hf.1 he).1; simp only at this; omega
  have HN := Lib.hid (fun W (hW : Ints .u8 W (.slice va l.length vc) l) => show Calls Try.prog 75 #[.agg #[.slice va l.length vc, .int .i64 (a : Int), .int .i64 e], .int .i64 16] W fun e' w' => e' = .returned (.tuple #[.agg #[.slice va l.length vc, .int .i64 (p : Int), .int .i64 e1], .int .i64 (n : Int)]) ∧ Below W.heap.size W w' from by
    have := rReadN_all (.slice va l.length vc) l a e 16 W hW hb ha hl (by unfold Ok64; omega)
    rw [h1] at this
    exact this)
  obtain ⟨⟨F, pF, eF⟩, h2⟩ : ∃ r, gFs l n p e1 = r := ⟨_, rfl⟩
  have H2 := Lib.hid h2
  have hFe : gF l a e = if eF ≠ 0 then ([], pF, eF) else if isF F = true then (F, pF, eF) else ([], pF, 211) := by
    by_cases he : eF = 0
    · subst he
      rw [if_neg (by simp)]
      cases hi : isF F with
      | true => rw [if_pos rfl, gF_yes h1 h2 hi]
      | false => rw [if_neg (by simp), gF_no h1 h2 hi]
    · rw [if_pos he, gF_bad h1 h2 he]
  have HF := Lib.hid hFe
  have hFl : F.length ≤ 16 := by have := gFs_le l n p e1; rw [h2] at this; exact Nat.le_trans this hn16
  clear hf h hb h1 hp h2 hFe
  go_enter Try.func45, Try.ntmps45
  go_wp2_with fail
  (with_reducible refine (HN.out _ (VI.out.below (by (repeat (first | with_reducible exact Below.refl _ _ | with_reducible refine Bs ?_ | with_reducible refine Ba ?_ | with_reducible refine Bd ?_ | with_reducible refine Bn ?_))))).mono ?_); rintro e w1 ⟨rfl, b1⟩; have s1 : w.heap.size + 1 + 1 ≤ w1.heap.size := sz b1; have B1 := Lib.hid (Bc (B := w.heap.size) (a := w) (by (repeat (first | with_reducible exact Below.refl _ _ | with_reducible refine Bs ?_ | with_reducible refine Ba ?_ | with_reducible refine Bd ?_ | with_reducible refine Bn ?_))) b1); obtain ⟨c1_0, f1_0, c1_1, f1_1, c1_2, f1_2⟩ := k3f (w.heap.size + 1) (.slice none 0 0) (.int .i64 0) (.int .i64 0) b1 (by and_intros <;> go_simp); obtain ⟨l1_0, n1_0, m1_0⟩ := lnm (show w.heap.size + 1 < w1.heap.size by omega); clear b1
  go_wp2_with fail
  go_loopw [6, 7, 8, 9, 10, 11] (fun fv jv _ _ _ _ wr => ∃ (j m : Nat) (p' : Nat) (e' : Int) (ps : List GrV), jv = .int .i64 (j : Int) ∧ j + m = n ∧ ps.length = j ∧ p' ≤ l.length ∧ Below w.heap.size w wr ∧ w1.heap.size < wr.heap.size ∧ ForSt (w1.heap.size + 1) wr fv ps ∧ (F, pF, eF) = (ps.map (·.1) ++ (gFs l m p' e').1, (gFs l m p' e').2) ∧ (wr.cell? ⟨w1.heap.size, 0, none⟩ = some (.slice va l.length vc) ∧ wr.frozen? ⟨w1.heap.size, 0, none⟩ = false ∧ wr.cell? ⟨w1.heap.size, 1, none⟩ = some (.int .i64 (p' : Int)) ∧ wr.frozen? ⟨w1.heap.size, 1, none⟩ = false ∧ wr.cell? ⟨w1.heap.size, 2, none⟩ = some (.int .i64 e') ∧ wr.frozen? ⟨w1.heap.size, 2, none⟩ = false) ∧ (wr.cell? ⟨w.heap.size + 1, 0, none⟩ = some (.slice none 0 0) ∧ wr.frozen? ⟨w.heap.size + 1, 0, none⟩ = false ∧ wr.cell? ⟨w.heap.size + 1, 1, none⟩ = some (.int .i64 0) ∧ wr.frozen? ⟨w.heap.size + 1, 1, none⟩ = false ∧ wr.cell? ⟨w.heap.size + 1, 2, none⟩ = some (.int .i64 0) ∧ wr.frozen? ⟨w.heap.size + 1, 2, none⟩ = false)) (fun _ jv _ _ _ _ _ => n - (intOf jv).toNat)
  case atStart => exact ⟨0, n, p, e1, [], rfl, by omega, rfl, HP.out, by (repeat (first | with_reducible exact Below.refl _ _ | with_reducible refine Bs ?_ | with_reducible refine Ba ?_ | with_reducible refine Bd ?_ | with_reducible refine Bn ?_ | with_reducible refine Bt B1.out ?_)), by simp, ForSt.nil _ _ (by simp), by rw [H2.out]; rfl, by and_intros <;> go_simp, by and_intros <;> go_simp⟩
  case round =>
    obtain ⟨j, m, p', e', ps, rfl, hjm, hlen, hp', hbi, hsz, hS, hres, ⟨c0, cf0, c1, cf1, c2, cf2⟩, ⟨t0, tf0, t1, tf1, t2, tf2⟩⟩ := hrel
    rename World => wi
    have BI := Lib.hid hbi
    have HS := Lib.hid hS
    have HRES := Lib.hid hres
    have HP' := Lib.hid hp'
    obtain ⟨fa, fc, rfl⟩ := own_shapeN hS.ou
    have HLEN := Lib.hid (show ps.length ≤ 16 by omega)
    have HLJ := Lib.hid hlen
    have HJM := Lib.hid hjm
    cases m with
    | zero =>
      have hF : F = ps.map (·.1) ∧ pF = p' ∧ eF = e' := by
        injection hres with q1 q2
        injection q2 with q2 q3
        exact ⟨q1.trans (List.append_nil _), q2, q3⟩
      obtain ⟨hF1, rfl, rfl⟩ := hF
      have HGF := Lib.hid (hS.fin (by omega))
      rw [← hF1] at HGF
      obtain rfl : j = n := by omega
      have jj : ¬ (j : Int) < (j : Int) := by omega
      clear hbi hS hres hp' hlen hF1 hjm
      by_cases he : eF = 0
      · subst he
        cases hi : isF F with
        | true =>
          have HI := Lib.hid hi
          have HIS := Lib.hid (fun W (hW : GrownsR W (.slice fa ps.length fc) F) => show Calls Try.prog 18 #[.slice fa ps.length fc] W fun e w' => e = .returned (.bool true) ∧ Below W.heap.size W w' from by
            have := ris14_any _ F W hW
            rw [hi] at this
            exact this)
          clear hi
          go_wp2_with fail
          (with_reducible refine (HIS.out _ HGF.out.now).mono ?_)
          rintro e3 w3 ⟨rfl, b3⟩
          have y3 := b3.size
          obtain ⟨c0, cf0, c1, cf1, c2, cf2⟩ := k3f (w1.heap.size) (.slice va l.length vc) (.int .i64 (pF : Int)) (.int .i64 0) b3 (by and_intros <;> first | (go_simp; done) | (repeat (first | with_reducible assumption | with_reducible refine dcell ?_ | with_reducible refine dfroz ?_ | with_reducible refine acell _ ?_ (by first | omega | (simp; omega)) | with_reducible refine afroz _ ?_ (by first | omega | (simp; omega)) | with_reducible refine scell ?_ (by first | omega | (simp; omega)) | with_reducible refine sfroz ?_ (by first | omega | (simp; omega))))) (by first | omega | (simp; done) | (simp; omega))
          obtain ⟨t0, tf0, t1, tf1, t2, tf2⟩ := k3f (w.heap.size + 1) (.slice none 0 0) (.int .i64 0) (.int .i64 0) b3 (by and_intros <;> first | (go_simp; done) | (repeat (first | with_reducible assumption | with_reducible refine dcell ?_ | with_reducible refine dfroz ?_ | with_reducible refine acell _ ?_ (by first | omega | (simp; omega)) | with_reducible refine afroz _ ?_ (by first | omega | (simp; omega)) | with_reducible refine scell ?_ (by first | omega | (simp; omega)) | with_reducible refine sfroz ?_ (by first | omega | (simp; omega))))) (by first | omega | (simp; done) | (simp; omega))
          obtain ⟨lq1, lr1, ls1⟩ := lnm (show w1.heap.size < w3.heap.size by first | omega | (simp at *; omega))
          obtain ⟨lq2, lr2, ls2⟩ := lnm (show w.heap.size + 1 < w3.heap.size by first | omega | (simp at *; omega))
          have B3 := Lib.hid (Bc (B := w.heap.size) (a := w) (by (repeat (first | with_reducible exact Below.refl _ _ | with_reducible refine Bs ?_ | with_reducible refine Ba ?_ | with_reducible refine Bd ?_ | with_reducible refine Bn ?_ | with_reducible refine Bt BI.out ?_))) b3)
          have G3 := Lib.hid (HGF.out.below b3)
          clear b3
          go_wp2_with fail
          exact bodyPost_ret (v := .tuple #[.agg #[.slice va l.length vc, .int .i64 (pF : Int), .int .i64 0], .slice fa ps.length fc]) (by simp [results, Try.results45, go_sem, *]) rfl (by rw [HF.out, if_neg (by simp), if_pos HI.out]; exact ⟨_, rfl, (by (repeat (first | with_reducible exact Below.refl _ _ | with_reducible refine Bs ?_ | with_reducible refine Ba ?_ | with_reducible refine Bd ?_ | with_reducible refine Bn ?_ | with_reducible refine Bt B3.out ?_))), GrownsF.low (show GrownsF (w1.heap.size + 1) _ (.slice fa ps.length fc) F from by (repeat (first | with_reducible exact G3.out | with_reducible refine GrownsF.drew ?_ | with_reducible refine GrownsF.new _ ?_ | refine GrownsF.set (.inl (by first | omega | (simp; omega))) ?_))) (by omega)⟩)
        | false =>
          have HI := Lib.hid hi
          have HIS := Lib.hid (fun W (hW : GrownsR W (.slice fa ps.length fc) F) => show Calls Try.prog 18 #[.slice fa ps.length fc] W fun e w' => e = .returned (.bool false) ∧ Below W.heap.size W w' from by
            have := ris14_any _ F W hW
            rw [hi] at this
            exact this)
          clear hi
          go_wp2_with fail
          (with_reducible refine (HIS.out _ HGF.out.now).mono ?_)
          rintro e3 w3 ⟨rfl, b3⟩
          have y3 := b3.size
          obtain ⟨c0, cf0, c1, cf1, c2, cf2⟩ := k3f (w1.heap.size) (.slice va l.length vc) (.int .i64 (pF : Int)) (.int .i64 0) b3 (by and_intros <;> first | (go_simp; done) | (repeat (first | with_reducible assumption | with_reducible refine dcell ?_ | with_reducible refine dfroz ?_ | with_reducible refine acell _ ?_ (by first | omega | (simp; omega)) | with_reducible refine afroz _ ?_ (by first | omega | (simp; omega)) | with_reducible refine scell ?_ (by first | omega | (simp; omega)) | with_reducible refine sfroz ?_ (by first | omega | (simp; omega))))) (by first | omega | (simp; done) | (simp; omega))
          obtain ⟨t0, tf0, t1, tf1, t2, tf2⟩ := k3f (w.heap.size + 1) (.slice none 0 0) (.int .i64 0) (.int .i64 0) b3 (by and_intros <;> first | (go_simp; done) | (repeat (first | with_reducible assumption | with_reducible refine dcell ?_ | with_reducible refine dfroz ?_ | with_reducible refine acell _ ?_ (by first | omega | (simp; omega)) | with_reducible refine afroz _ ?_ (by first | omega | (simp; omega)) | with_reducible refine scell ?_ (by first | omega | (simp; omega)) | with_reducible refine sfroz ?_ (by first | omega | (simp; omega))))) (by first | omega | (simp; done) | (simp; omega))
          obtain ⟨lq3, lr3, ls3⟩ := lnm (show w1.heap.size < w3.heap.size by first | omega | (simp at *; omega))
          obtain ⟨lq4, lr4, ls4⟩ := lnm (show w.heap.size + 1 < w3.heap.size by first | omega | (simp at *; omega))
          have B3 := Lib.hid (Bc (B := w.heap.size) (a := w) (by (repeat (first | with_reducible exact Below.refl _ _ | with_reducible refine Bs ?_ | with_reducible refine Ba ?_ | with_reducible refine Bd ?_ | with_reducible refine Bn ?_ | with_reducible refine Bt BI.out ?_))) b3)
          have G3 := Lib.hid (HGF.out.below b3)
          clear b3
          go_wp2_with fail
          (with_reducible refine (rFail211 va l.length vc (pF : Int) _).mono ?_)
          rintro e4 w4 ⟨rfl, b4⟩
          have y4 := b4.size
          obtain ⟨c0, cf0, c1, cf1, c2, cf2⟩ := k3f (w1.heap.size) (.slice va l.length vc) (.int .i64 (pF : Int)) (.int .i64 0) b4 (by and_intros <;> first | (go_simp; done) | (repeat (first | with_reducible assumption | with_reducible refine dcell ?_ | with_reducible refine dfroz ?_ | with_reducible refine acell _ ?_ (by first | omega | (simp; omega)) | with_reducible refine afroz _ ?_ (by first | omega | (simp; omega)) | with_reducible refine scell ?_ (by first | omega | (simp; omega)) | with_reducible refine sfroz ?_ (by first | omega | (simp; omega))))) (by first | omega | (simp; done) | (simp; omega))
          obtain ⟨t0, tf0, t1, tf1, t2, tf2⟩ := k3f (w.heap.size + 1) (.slice none 0 0) (.int .i64 0) (.int .i64 0) b4 (by and_intros <;> first | (go_simp; done) | (repeat (first | with_reducible assumption | with_reducible refine dcell ?_ | with_reducible refine dfroz ?_ | with_reducible refine acell _ ?_ (by first | omega | (simp; omega)) | with_reducible refine afroz _ ?_ (by first | omega | (simp; omega)) | with_reducible refine scell ?_ (by first | omega | (simp; omega)) | with_reducible refine sfroz ?_ (by first | omega | (simp; omega))))) (by first | omega | (simp; done) | (simp; omega))
          obtain ⟨lq5, lr5, ls5⟩ := lnm (show w1.heap.size < w4.heap.size by first | omega | (simp at *; omega))
          obtain ⟨lq6, lr6, ls6⟩ := lnm (show w.heap.size + 1 < w4.heap.size by first | omega | (simp at *; omega))
          have B4 := Lib.hid (Bc (B := w.heap.size) (a := w) (by (repeat (first | with_reducible exact Below.refl _ _ | with_reducible refine Bs ?_ | with_reducible refine Ba ?_ | with_reducible refine Bd ?_ | with_reducible refine Bn ?_ | with_reducible refine Bt B3.out ?_))) b4)
          clear b4
          go_wp2_with fail
          exact bodyPost_ret (v := .tuple #[.agg #[.slice va l.length vc, .int .i64 (pF : Int), .int .i64 211], .slice none 0 0]) (by simp [results, Try.results45, go_sem, *]) rfl (by rw [HF.out, if_neg (by simp), if_neg (by simp [HI.out])]; exact ⟨_, rfl, (by (repeat (first | with_reducible exact Below.refl _ _ | with_reducible refine Bs ?_ | with_reducible refine Ba ?_ | with_reducible refine Bd ?_ | with_reducible refine Bn ?_ | with_reducible refine Bt B4.out ?_))), GrownsF.nil _ _⟩)
      · have j1 : (eF == 0) = false := by rw [beq_eq_false_iff_ne]; exact he
        have j2 : (eF != 0) = true := by simp [he]
        have HE := Lib.hid he
        clear he
        go_wp2_with fail
        exact bodyPost_ret (v := .tuple #[.agg #[.slice va l.length vc, .int .i64 (pF : Int), .int .i64 eF], .slice none 0 0]) (by simp [results, Try.results45, go_sem, *]) rfl (by rw [HF.out, if_pos HE.out]; exact ⟨_, rfl, (by (repeat (first | with_reducible exact Below.refl _ _ | with_reducible refine Bs ?_ | with_reducible refine Ba ?_ | with_reducible refine Bd ?_ | with_reducible refine Bn ?_ | with_reducible refine Bt BI.out ?_))), GrownsF.nil _ _⟩)
    | succ k =>
      have jj : (j : Int) < (n : Int) := by omega
      by_cases he : e' = 0
      · subst he
        obtain ⟨⟨b, p2, e2⟩, hb2⟩ : ∃ r, rdN' l p' 0 1099511627776 = r := ⟨_, rfl⟩
        have hp2 : p2 ≤ l.length := by have := rdN'_le HB.out hp' 0 1099511627776; rw [hb2] at this; exact this
        obtain ⟨⟨t, p3, e3⟩, hb3⟩ : ∃ r, gT l p2 e2 = r := ⟨_, rfl⟩
        have hp3 : p3 ≤ l.length := by have := (gT_spec HB.out hp2 e2).1; rw [hb3] at this; exact this
        obtain ⟨⟨fs, p4, e4⟩, hb4⟩ : ∃ r, gFs l k p3 e3 = r := ⟨_, rfl⟩
        have HB4 := Lib.hid hb4
        have hst := gFs_step (gG_of hb2 hb3) hb4
        rw [hst] at hres
        have hbM : (b : Int) ≤ 1099511627776 := by
          have := rdN'_facts l HB.out p' 0 1099511627776
          rw [hb2] at this
          by_cases h : e2 = 0
          · exact (this.2 h).2.2
          · have := (this.1 h).1; simp only at this; omega
        have HBM := Lib.hid hbM
        have HR2 := Lib.hid hres
        have HP3 := Lib.hid hp3
        have HNB := Lib.hid (fun W (hW : Ints .u8 W (.slice va l.length vc) l) => show Calls Try.prog 75 #[.agg #[.slice va l.length vc, .int .i64 (p' : Int), .int .i64 0], .int .i64 1099511627776] W fun e' w' => e' = .returned (.tuple #[.agg #[.slice va l.length vc, .int .i64 (p2 : Int), .int .i64 e2], .int .i64 (b : Int)]) ∧ Below W.heap.size W w' from by
          have := rReadN_all (.slice va l.length vc) l p' 0 1099511627776 W hW HB.out hp' hl (by unfold Ok64; omega)
          rw [hb2] at this
          exact this)
        have HGT := Lib.hid (fun W (hW : Ints .u8 W (.slice va l.length vc) l) => show Calls Try.prog 40 #[.agg #[.slice va l.length vc, .int .i64 (p2 : Int), .int .i64 e2]] W fun e' w' => ∃ d nv, e' = .returned (.tuple #[.agg #[.slice va l.length vc, .int .i64 (p3 : Int), .int .i64 e3], .agg #[.int .i64 d, nv]]) ∧ Below W.heap.size W w' ∧ d = t.dim ∧ NodesF W.heap.size w' nv t.nodes from by
          have := rgetTree_any (.slice va l.length vc) l p2 e2 W hW HB.out hp2 hl
          rw [hb3] at this
          exact this)
        clear hjm hbi hS hres hp' hlen hb2 hb3 hb4 hst hp2 hp3 hbM
        go_wp2_with fail
        (with_reducible refine (HNB.out _ (VI.out.below (by (repeat (first | with_reducible exact Below.refl _ _ | with_reducible refine Bs ?_ | with_reducible refine Ba ?_ | with_reducible refine Bd ?_ | with_reducible refine Bn ?_ | with_reducible refine Bt BI.out ?_))))).mono ?_)
        rintro e5 w3 ⟨rfl, b3⟩
        have y3 := b3.size
        obtain ⟨c0, cf0, c1, cf1, c2, cf2⟩ := k3f (w1.heap.size) (.slice va l.length vc) (.int .i64 (p' : Int)) (.int .i64 0) b3 (by and_intros <;> first | (go_simp; done) | (repeat (first | with_reducible assumption | with_reducible refine dcell ?_ | with_reducible refine dfroz ?_ | with_reducible refine acell _ ?_ (by first | omega | (simp; omega)) | with_reducible refine afroz _ ?_ (by first | omega | (simp; omega)) | with_reducible refine scell ?_ (by first | omega | (simp; omega)) | with_reducible refine sfroz ?_ (by first | omega | (simp; omega))))) (by first | omega | (simp; done) | (simp; omega))
        obtain ⟨t0, tf0, t1, tf1, t2, tf2⟩ := k3f (w.heap.size + 1) (.slice none 0 0) (.int .i64 0) (.int .i64 0) b3 (by and_intros <;> first | (go_simp; done) | (repeat (first | with_reducible assumption | with_reducible refine dcell ?_ | with_reducible refine dfroz ?_ | with_reducible refine acell _ ?_ (by first | omega | (simp; omega)) | with_reducible refine afroz _ ?_ (by first | omega | (simp; omega)) | with_reducible refine scell ?_ (by first | omega | (simp; omega)) | with_reducible refine sfroz ?_ (by first | omega | (simp; omega))))) (by first | omega | (simp; done) | (simp; omega))
        obtain ⟨lq7, lr7, ls7⟩ := lnm (show w1.heap.size < w3.heap.size by first | omega | (simp at *; omega))
        obtain ⟨lq8, lr8, ls8⟩ := lnm (show w.heap.size + 1 < w3.heap.size by first | omega | (simp at *; omega))
        have B3 := Lib.hid (Bc (B := w.heap.size) (a := w) (by (repeat (first | with_reducible exact Below.refl _ _ | with_reducible refine Bs ?_ | with_reducible refine Ba ?_ | with_reducible refine Bd ?_ | with_reducible refine Bn ?_ | with_reducible refine Bt BI.out ?_))) b3)
        have S3 := Lib.hid (HS.out.later (Bc (B := wi.heap.size) (by (repeat (first | with_reducible exact Below.refl _ _ | with_reducible refine Bs ?_ | with_reducible refine Ba ?_ | with_reducible refine Bd ?_ | with_reducible refine Bn ?_))) b3))
        clear b3
        go_wp2_with fail
        (with_reducible refine (HGT.out _ (VI.out.below (by (repeat (first | with_reducible exact Below.refl _ _ | with_reducible refine Bs ?_ | with_reducible refine Ba ?_ | with_reducible refine Bd ?_ | with_reducible refine Bn ?_ | with_reducible refine Bt B3.out ?_))))).mono ?_)
        rintro e5 w4 ⟨d4, nv, rfl, b4, hd4, hf4⟩
        obtain ⟨na, nc, rfl, -⟩ := hf4.now
        have y4 := b4.size
        simp only [World.size_alloc] at y4
        obtain ⟨c0, cf0, c1, cf1, c2, cf2⟩ := k3f (w1.heap.size) (.slice va l.length vc) (.int .i64 (p' : Int)) (.int .i64 0) b4 (by and_intros <;> first | (go_simp; done) | (repeat (first | with_reducible assumption | with_reducible refine dcell ?_ | with_reducible refine dfroz ?_ | with_reducible refine acell _ ?_ (by first | omega | (simp; omega)) | with_reducible refine afroz _ ?_ (by first | omega | (simp; omega)) | with_reducible refine scell ?_ (by first | omega | (simp; omega)) | with_reducible refine sfroz ?_ (by first | omega | (simp; omega))))) (by first | omega | (simp; done) | (simp; omega))
        obtain ⟨t0, tf0, t1, tf1, t2, tf2⟩ := k3f (w.heap.size + 1) (.slice none 0 0) (.int .i64 0) (.int .i64 0) b4 (by and_intros <;> first | (go_simp; done) | (repeat (first | with_reducible assumption | with_reducible refine dcell ?_ | with_reducible refine dfroz ?_ | with_reducible refine acell _ ?_ (by first | omega | (simp; omega)) | with_reducible refine afroz _ ?_ (by first | omega | (simp; omega)) | with_reducible refine scell ?_ (by first | omega | (simp; omega)) | with_reducible refine sfroz ?_ (by first | omega | (simp; omega))))) (by first | omega | (simp; done) | (simp; omega))
        obtain ⟨lq9, lr9, ls9⟩ := lnm (show w1.heap.size < w4.heap.size by first | omega | (simp at *; omega))
        obtain ⟨lq10, lr10, ls10⟩ := lnm (show w.heap.size + 1 < w4.heap.size by first | omega | (simp at *; omega))
        obtain ⟨lq11, lr11, ls11⟩ := lnm (show w3.heap.size < w4.heap.size by first | omega | (simp at *; omega))
        have B4 := Lib.hid (Bc (B := w.heap.size) (a := w) (by (repeat (first | with_reducible exact Below.refl _ _ | with_reducible refine Bs ?_ | with_reducible refine Ba ?_ | with_reducible refine Bd ?_ | with_reducible refine Bn ?_ | with_reducible refine Bt B3.out ?_))) b4)
        have S4 := Lib.hid (S3.out.later (Bc (B := w3.heap.size) (by (repeat (first | with_reducible exact Below.refl _ _ | with_reducible refine Bs ?_ | with_reducible refine Ba ?_ | with_reducible refine Bd ?_ | with_reducible refine Bn ?_))) b4))
        have F4 := Lib.hid (NodesF.low (B' := w3.heap.size) hf4 (by simp))
        have HD4 := Lib.hid hd4
        clear b4 hf4 hd4
        go_wp2_with (at_builtin; go_must (refine app1N rfl _ _ 22 rfl Try.underlying22 eiGrown (w1.heap.size + 1) (by rfl) (show World.ownsRow _ (w1.heap.size + 1) 41 3 (.slice fa ps.length fc) ps.length (ps.flatMap rowG) from ForSt.ou (by (repeat (first | with_reducible exact S4.out | with_reducible refine ForSt.drew ?_ | with_reducible refine ForSt.new ?_ _ | refine ForSt.set (.inl (by first | omega | (simp; omega))) ?_)))) (by rfl) (by first | rfl | simp) rfl (by simp [Value.oneCell']) (by have := HLEN.out; omega) (by first | omega | (simp; done) | (simp; omega)) ?_))
        intro v5 w5 o5 g5 nb5
        have y5 := g5.size
        simp only [World.size_alloc, World.size_setCell] at y5
        obtain ⟨c0, cf0, c1, cf1, c2, cf2⟩ := gr3f (w1.heap.size) (.slice va l.length vc) (.int .i64 (p3 : Int)) (.int .i64 e3) g5 (by and_intros <;> first | (go_simp; done) | (repeat (first | with_reducible assumption | with_reducible refine dcell ?_ | with_reducible refine dfroz ?_ | with_reducible refine acell _ ?_ (by first | omega | (simp; omega)) | with_reducible refine afroz _ ?_ (by first | omega | (simp; omega)) | with_reducible refine scell ?_ (by first | omega | (simp; omega)) | with_reducible refine sfroz ?_ (by first | omega | (simp; omega))))) (by first | omega | (simp; done) | (simp; omega)) (fun e => by have := (S4.out.ou.lt _ e).1; omega)
        obtain ⟨t0, tf0, t1, tf1, t2, tf2⟩ := gr3f (w.heap.size + 1) (.slice none 0 0) (.int .i64 0) (.int .i64 0) g5 (by and_intros <;> first | (go_simp; done) | (repeat (first | with_reducible assumption | with_reducible refine dcell ?_ | with_reducible refine dfroz ?_ | with_reducible refine acell _ ?_ (by first | omega | (simp; omega)) | with_reducible refine afroz _ ?_ (by first | omega | (simp; omega)) | with_reducible refine scell ?_ (by first | omega | (simp; omega)) | with_reducible refine sfroz ?_ (by first | omega | (simp; omega))))) (by first | omega | (simp; done) | (simp; omega)) (fun e => by have := (S4.out.ou.lt _ e).1; omega)
        obtain ⟨lq12, lr12, ls12⟩ := lnm (show w1.heap.size < w5.heap.size by first | omega | (simp at *; omega))
        obtain ⟨lq13, lr13, ls13⟩ := lnm (show w.heap.size + 1 < w5.heap.size by first | omega | (simp at *; omega))
        have B5 := Lib.hid (below_grown (show Below w.heap.size w _ from by (repeat (first | with_reducible exact Below.refl _ _ | with_reducible refine Bs ?_ | with_reducible refine Ba ?_ | with_reducible refine Bd ?_ | with_reducible refine Bn ?_ | with_reducible refine Bt B4.out ?_))) g5 (fun x hx => by have := (S4.out.ou.lt x hx).1; omega) (by first | omega | (simp; done) | (simp; omega)))
        have S5 := Lib.hid (ForSt.add (show ForSt (w1.heap.size + 1) _ (.slice fa ps.length fc) ps from by (repeat (first | with_reducible exact S4.out | with_reducible refine ForSt.drew ?_ | with_reducible refine ForSt.new ?_ _ | refine ForSt.set (.inl (by first | omega | (simp; omega))) ?_))) (C := w3.heap.size) (z := (b : Int)) (nv := .slice na t.nodes.length nc) (by omega) (fun x hx => (S3.out.ou.lt x hx).2) (show NodesF w3.heap.size _ (.slice na t.nodes.length nc) t.nodes from by (repeat (first | with_reducible exact F4.out | with_reducible refine NodesF.drew ?_ | with_reducible refine NodesF.new _ ?_ | refine NodesF.set (.inl (by first | omega | (simp; omega))) ?_))) (by have := HBM.out; unfold Ok64; omega) (by rw [HD4.out] at o5; simpa [rowG] using o5) g5 nb5)
        clear o5 g5 nb5
        go_wp2_with fail
        go_roundw
        case rel => exact ⟨j + 1, k, p3, e3, _, by go_num, by have := HJM.out; omega, by rw [List.length_append, HLJ.out]; rfl, HP3.out, B5.out, by omega, S5.out, by rw [HR2.out, HB4.out, List.map_append, List.append_assoc]; rfl, by and_intros <;> with_reducible assumption, by and_intros <;> with_reducible assumption⟩
        case measure => simp [intOf] <;> omega
      · have j1 : (e' == 0) = false := by rw [beq_eq_false_iff_ne]; exact he
        have j2 : (e' != 0) = true := by simp [he]
        have hF : pF = p' ∧ eF = e' := by
          rw [gFs_stop l _ _ he] at hres
          injection hres with q1 q2
          injection q2 with q2 q3
          exact ⟨q2, q3⟩
        obtain ⟨rfl, rfl⟩ := hF
        have HE := Lib.hid he
        clear hbi hS hres hp' hlen he
        go_wp2_with fail
        exact bodyPost_ret (v := .tuple #[.agg #[.slice va l.length vc, .int .i64 (pF : Int), .int .i64 eF], .slice none 0 0]) (by simp [results, Try.results45, go_sem, *]) rfl (by rw [HF.out, if_pos HE.out]; exact ⟨_, rfl, (by (repeat (first | with_reducible exact Below.refl _ _ | with_reducible refine Bs ?_ | with_reducible refine Ba ?_ | with_reducible refine Bd ?_ | with_reducible refine Bn ?_ | with_reducible refine Bt BI.out ?_))), GrownsF.nil _ _⟩)
end Go.Proofs.Ytdbonlpkmncggaa
