/-
  ForW: Walk of forest.Put.
-/
import Derived.Test.YtdbonlpkmncggaaJ4a
import Derived.Test.YtdbonlpkmncggaaJ3a
namespace Go.Proofs.Ytdbonlpkmncggaa
open Go.RowKit

/-- v is a slice of nodes that lies in blocks from B on, but for the block r. -/
def ApartB (B : Nat) (r : Option Nat) (w : World) (v : Value) (l : List NodeP) : Prop := ∀ W : World, (∀ b, B ≤ b → r ≠ some b → b < w.heap.size → W.heap[b]? = w.heap[b]?) → w.heap.size ≤ W.heap.size → NodesR W v l

theorem NodesF.apartB {B C : Nat} {w : World} {v : Value} {l : List NodeP} (h : NodesF B w v l) {r : Option Nat} (hC : C ≤ B) (hr : ∀ b, r = some b → b < B) : ApartB C r w v l := fun W hW hz => h W (fun b h1 h2 => hW b (by omega) (fun e => by have := hr b e; omega) h2) hz

theorem ApartB.now {B : Nat} {r : Option Nat} {w : World} {v : Value} {l : List NodeP} (h : ApartB B r w v l) : NodesR w v l := h w (fun _ _ _ _ => rfl) (Nat.le_refl _)

theorem ApartB.later {B C : Nat} {r : Option Nat} {w w1 : World} {v : Value} {l : List NodeP} (h : ApartB B r w v l) (hb : Below C w w1) (hC : w.heap.size ≤ C) : ApartB B r w1 v l := fun W hW hz =>
  h W (fun b h0 h1 h2 => (hW b h0 h1 (Nat.lt_of_lt_of_le h2 hb.size)).trans (hb.block b (by omega))) (Nat.le_trans hb.size hz)

theorem ApartB.grown {B : Nat} {w w1 : World} {u u' v : Value} {l : List NodeP} (h : ApartB B u.ownBlock w v l) (hg : w.grownBy w1 u.ownBlock) (hn : NewB w u u') : ApartB B u'.ownBlock w1 v l := fun W hW hz =>
  h W (fun b h0 h1 h2 => (hW b h0 (fun e => by
    rcases hn with e2 | ⟨q, e2, hq⟩
    · exact h1 (by rw [← e2]; exact e)
    · rw [e2] at e
      injection e with e
      omega) (Nat.lt_of_lt_of_le h2 hg.size)).trans (hg.block b h2 (fun e => h1 e.symm))) (Nat.le_trans hg.size hz)

theorem ApartB.set {B : Nat} {r : Option Nat} {w : World} {v : Value} {l : List NodeP} (h : ApartB B r w v l) (b o : Nat) (u : Value) (hb : b < B ∨ r = some b) : ApartB B r (w.setCell ⟨b, o, none⟩ u) v l := fun W hW hz =>
  h W (fun q h0 h1 h2 => (hW q h0 h1 (by simpa using h2)).trans (Below.heap_setCell _ _ _ _ (fun e => by
    have e' : q = b := e
    subst e'
    rcases hb with h | h
    · omega
    · exact h1 h))) (by simpa using hz)

/-- app1N at a step of a region that draws its order. -/
theorem app1N_step {P : Program} {ops : Array Oper} {o : Oper} {a : Act} {K : Act → World → Prop} {Q : Exit → Act → World → Prop} {E : Prop} (hgd : o.guard = none) (s x : Operand) (t : TypeId)
    (ho : o.op = .call { callee := .builtin .append, args := #[s, x], argTypes := #[t, t] })
    {e : TypeId} {z : Value} {size bytes : Nat} (ht : P.underlying t = some (.slice e)) (hE : EI P e z size bytes)
    (base : Nat) {v : Value} {n : Nat} {xs : List Value} {W : World} {cs : Array Value} {T : TypeId} {C : Nat} (hs : a.eval s = v) (hown : W.ownsRow base e size v n xs)
    {b : Nat} (hx : a.eval x = .slice (some ⟨b, 0, none⟩) 1 C) (hbk : b = W.heap.size) (hcs : cs.size = size) (h1 : ∀ u ∈ cs.toList, u.oneCell' = true)
    (hbytes : (n + 1) * bytes ≤ 140737488355328) (hbase : base ≤ W.heap.size)
    (h : ∀ v' w', w'.ownsRow base e size v' (n + 1) (xs ++ cs.toList) → W.grownBy w' v.ownBlock → NewB W v v' → K (a.put o.dst v') w') :
    if Region.wanted o (yielded ops a.tmps) = true then o.wp P a (W.alloc (.cells cs T)) K Q else E := by
  have hw : Region.wanted o (yielded ops a.tmps) = true := by unfold Region.wanted; rw [hgd]
  rw [if_pos hw]
  subst hbk
  obtain ⟨i, hi, hz, hsize, hby, hzs, hsz, hbp⟩ := hE
  have h63 : n + 1 ≤ 140737488355328 := Nat.le_trans (Nat.le_mul_of_pos_right _ hbp) hbytes
  obtain ⟨v', w', hrun, h2, hg, _, h5⟩ := run_append_own_at (P := P) (W.alloc (.cells cs T)) base t o.type e i z size bytes ht hi hz hsize hby hzs hsz v n xs (hown.alloc _) ⟨W.heap.size, 0, none⟩ 1 C cs.toList (by simp [hcs]) (by
    intro j u hu
    have hadd : (⟨W.heap.size, 0, none⟩ : Addr).add j = ⟨W.heap.size, j, none⟩ := by unfold Addr.add; split <;> simp_all
    rw [hadd]
    have hb := heap_alloc_new W (.cells cs T)
    simp only [World.cell?, hb]
    simpa using hu) h1 (by unfold maxLen; omega) hbytes (by simp; omega)
  unfold Oper.wp execOp
  simp only [ho, resolve, invoke, builtin, Sem.run_bind, Sem.run_pure, Result.andThen_ok, List.map_toArray, List.map_cons, List.map_nil, hs, hx, hrun]
  refine h v' w' h2 ⟨hg.os, hg.tape, hg.output, by have := hg.size; simp at this; omega, fun k hk hn => (hg.block k (by simp; omega) hn).trans ((Ba (B := W.heap.size) (Below.refl _ W)).block k hk)⟩ ?_
  rcases h5 with h | h
  · exact .inl h
  · exact .inr ⟨_, h, by simp⟩

set_option maxRecDepth 100000 in
set_option maxHeartbeats 8000000 in
theorem fput_any' (v vg : Value) (l : List (TreeP × Int)) (i : Int) (g : TreeP × Int) (w : World) (h : GrownsR w v l) (hg : GrownV w vg g) (hs : smallF l) (hsg : smallT g.1) :
    Calls Try.prog 24 #[v, .int .i64 i, vg] w fun e w' => ∃ v', e = .returned (.tuple #[v', .int .i64 (fputE l i g)]) ∧ GrownsR w' v' (fputL l i g) ∧ Below w.heap.size w w' := by
  have HG := Lib.hid h
  obtain ⟨gv, rfl, hgo, hgn⟩ := hg
  have HGO := Lib.hid hgo
  have HGT := Lib.hid (show TreeR w (.agg #[.int .i64 g.1.dim, gv]) g.1 from ⟨gv, rfl, hgn⟩)
  have HCG := Lib.hid (fun W (hW : TreeR W (.agg #[.int .i64 g.1.dim, gv]) g.1) => copied_any _ g.1 W hW hsg.1 hsg.2)
  obtain ⟨ga, gc, rfl, _⟩ := hgn
  obtain ⟨FB, hFB⟩ : ∃ FB, isF l = FB := ⟨_, rfl⟩
  have HF := Lib.hid (fun W (hW : GrownsR W v l) => hFB ▸ fis_any v l W hW)
  have HFB := Lib.hid hFB
  have HIS := Lib.hid (fun v' L W (hW : GrownsR W v' L) => fis_any v' L W hW)
  obtain ⟨ps, hp1, hp2, ad, cc, rfl, hp3⟩ := growns_vals h
  have HP1 := Lib.hid hp1
  have HP2 := Lib.hid hp2
  have HP3 := Lib.hid hp3
  have HS := Lib.hid hs.2
  have hql : ps.length = l.length := by rw [← hp1, List.length_map]
  obtain ⟨n, hnn⟩ : ∃ n, l.length = n := ⟨_, rfl⟩
  rw [hnn] at HG HF hql ⊢
  have HN := Lib.hid hnn
  have HQL := Lib.hid hql
  obtain ⟨gm, hgm⟩ : ∃ gm, g.1.nodes.length = gm := ⟨_, rfl⟩
  obtain ⟨gd, hgd⟩ : ∃ gd, g.1.dim = gd := ⟨_, rfl⟩
  obtain ⟨gz, hgz⟩ : ∃ gz, g.2 = gz := ⟨_, rfl⟩
  rw [hgm, hgd] at HGT HCG
  rw [hgm, hgd, hgz]
  have HGM := Lib.hid hgm
  have HGD := Lib.hid hgd
  have HGZ := Lib.hid hgz
  obtain ⟨E, hE⟩ : ∃ E, fputE l i g = E := ⟨_, rfl⟩
  rw [hE]
  have HE := Lib.hid hE
  unfold fputE at hE
  rw [hFB, hnn] at hE
  clear hnn hFB hgm hgd hgz hgo h hp1 hp2 hp3 hs hsg hql
  cases FB with
  | false =>
    have GE := Lib.hid (show E = 140 by rw [← hE, if_pos rfl])
    have GL := Lib.hid (fputL_no (show fputE l i g ≠ 0 by rw [HE.out, GE.out]; decide))
    clear hE
    go_enter Try.func24, Try.ntmps24
    go_wp2_with fail
    (with_reducible refine (HF.out _ (HG.out.below (by (repeat (first | with_reducible exact Below.refl _ _ | with_reducible refine Bs ?_ | with_reducible refine Ba ?_ | with_reducible refine Bd ?_ | with_reducible refine Bn ?_))))).mono ?_)
    rintro e w1 ⟨rfl, b1⟩
    have B1 := Lib.hid (show Below w.heap.size w w1 from below_tr (by (repeat (first | with_reducible exact Below.refl _ _ | with_reducible refine Bs ?_ | with_reducible refine Ba ?_ | with_reducible refine Bd ?_ | with_reducible refine Bn ?_))) (b1.mono (by simp)))
    clear b1
    go_wp2_with fail
    exact bodyPost_ret (v := .tuple #[.slice none 0 0, .int .i64 140]) (by simp [results, Try.results24, go_sem]) rfl ⟨_, by rw [GE.out], by rw [GL.out]; exact growns_nil _ _ (by omega), B1.out⟩
  | true =>
    rw [if_neg (by decide)] at hE
    have hn16 : n ≤ 16 := by have := isF_len HFB.out; rw [HN.out] at this; exact this
    by_cases h1 : i < 0 ∨ (n : Int) < i
    · have GE := Lib.hid (show E = 1 by rw [← hE, if_pos h1])
      have GL := Lib.hid (fputL_no (show fputE l i g ≠ 0 by rw [HE.out, GE.out]; decide))
      clear hE
      rcases Int.lt_or_le i 0 with h2 | h2
      · go_enter Try.func24, Try.ntmps24
        go_wp2_with fail
        (with_reducible refine (HF.out _ (HG.out.below (by (repeat (first | with_reducible exact Below.refl _ _ | with_reducible refine Bs ?_ | with_reducible refine Ba ?_ | with_reducible refine Bd ?_ | with_reducible refine Bn ?_))))).mono ?_)
        rintro e w1 ⟨rfl, b1⟩
        have B1 := Lib.hid (show Below w.heap.size w w1 from below_tr (by (repeat (first | with_reducible exact Below.refl _ _ | with_reducible refine Bs ?_ | with_reducible refine Ba ?_ | with_reducible refine Bd ?_ | with_reducible refine Bn ?_))) (b1.mono (by simp)))
        clear b1
        go_wp2_with fail
        exact bodyPost_ret (v := .tuple #[.slice none 0 0, .int .i64 1]) (by simp [results, Try.results24, go_sem]) rfl ⟨_, by rw [GE.out], by rw [GL.out]; exact growns_nil _ _ (by omega), B1.out⟩
      · have h3 : (n : Int) < i := by omega
        have h4 : ¬ i < 0 := by omega
        clear h1
        go_enter Try.func24, Try.ntmps24
        go_wp2_with fail
        (with_reducible refine (HF.out _ (HG.out.below (by (repeat (first | with_reducible exact Below.refl _ _ | with_reducible refine Bs ?_ | with_reducible refine Ba ?_ | with_reducible refine Bd ?_ | with_reducible refine Bn ?_))))).mono ?_)
        rintro e w1 ⟨rfl, b1⟩
        have B1 := Lib.hid (show Below w.heap.size w w1 from below_tr (by (repeat (first | with_reducible exact Below.refl _ _ | with_reducible refine Bs ?_ | with_reducible refine Ba ?_ | with_reducible refine Bd ?_ | with_reducible refine Bn ?_))) (b1.mono (by simp)))
        clear b1
        go_wp2_with fail
        exact bodyPost_ret (v := .tuple #[.slice none 0 0, .int .i64 1]) (by simp [results, Try.results24, go_sem]) rfl ⟨_, by rw [GE.out], by rw [GL.out]; exact growns_nil _ _ (by omega), B1.out⟩
    · rw [if_neg h1] at hE
      have h2 : ¬ i < 0 := by omega
      have h3 : ¬ (n : Int) < i := by omega
      clear h1
      by_cases h16 : i = 16
      · subst h16
        have GE := Lib.hid (show E = 3 by rw [← hE, if_pos rfl])
        have GL := Lib.hid (fputL_no (show fputE l 16 g ≠ 0 by rw [HE.out, GE.out]; decide))
        clear hE
        go_enter Try.func24, Try.ntmps24
        go_wp2_with fail
        (with_reducible refine (HF.out _ (HG.out.below (by (repeat (first | with_reducible exact Below.refl _ _ | with_reducible refine Bs ?_ | with_reducible refine Ba ?_ | with_reducible refine Bd ?_ | with_reducible refine Bn ?_))))).mono ?_)
        rintro e w1 ⟨rfl, b1⟩
        have B1 := Lib.hid (show Below w.heap.size w w1 from below_tr (by (repeat (first | with_reducible exact Below.refl _ _ | with_reducible refine Bs ?_ | with_reducible refine Ba ?_ | with_reducible refine Bd ?_ | with_reducible refine Bn ?_))) (b1.mono (by simp)))
        clear b1
        go_wp2_with fail
        exact bodyPost_ret (v := .tuple #[.slice none 0 0, .int .i64 3]) (by simp [results, Try.results24, go_sem]) rfl ⟨_, by rw [GE.out], by rw [GL.out]; exact growns_nil _ _ (by omega), B1.out⟩
      · rw [if_neg h16] at hE
        obtain ⟨k0, rfl⟩ : ∃ k : Nat, i = (k : Int) := ⟨i.toNat, by omega⟩
        have hkn : k0 ≤ n := by omega
        have j16 : ((k0 : Int) == 16) = false := by rw [beq_eq_false_iff_ne]; exact h16
        rw [Int.toNat_natCast] at hE
        obtain ⟨PL, hPL⟩ : ∃ PL, putF l k0 g = PL := ⟨_, rfl⟩
        have HPL := Lib.hid hPL
        rw [hPL] at hE
        obtain ⟨PB, hPB⟩ : ∃ PB, isF PL = PB := ⟨_, rfl⟩
        rw [hPB] at hE
        have HI2 := Lib.hid (fun v' W (hW : GrownsR W v' PL) => hPB ▸ HIS.out v' PL W hW)
        have HEE := Lib.hid hE
        clear hPB hPL h16 hE
        go_enter Try.func24, Try.ntmps24
        go_wp2_with fail
        (with_reducible refine (HF.out _ (HG.out.below (by (repeat (first | with_reducible exact Below.refl _ _ | with_reducible refine Bs ?_ | with_reducible refine Ba ?_ | with_reducible refine Bd ?_ | with_reducible refine Bn ?_))))).mono ?_); rintro e w1 ⟨rfl, b1⟩; have s1 : w.heap.size + 1 ≤ w1.heap.size := sz b1; have B1 := Lib.hid (Bc (B := w.heap.size) (a := w) (by (repeat (first | with_reducible exact Below.refl _ _ | with_reducible refine Bs ?_ | with_reducible refine Ba ?_ | with_reducible refine Bd ?_ | with_reducible refine Bn ?_))) b1); obtain ⟨c1_0, f1_0, c1_1, f1_1, c1_2, f1_2⟩ := k3f (w.heap.size) (.int .i64 gd) (.slice ga gm gc) (.int .i64 gz) b1 (by and_intros <;> go_simp); obtain ⟨l1_0, n1_0, m1_0⟩ := lnm (show w.heap.size < w1.heap.size by omega); clear b1
        go_wp2_with (at_make; go_must (refine mkcap rfl _ _ 22 rfl Try.underlying22 eiGrown 0 (n + 1) (by rfl) (by rfl) (by rfl) (by first | rfl | omega) (by omega) (by omega) ?_))
        intro w2 cur r2 hcs hb2 hz2
        have hown := rowAt_own (base := w1.heap.size) (n := 0) (size := 3) (xs := []) (Nat.le_refl _) r2 (Nat.zero_le (n + 1)) (by unfold maxLen; omega) (by omega) (by simp)
        have HOWN := Lib.hid hown
        have B2 := Lib.hid hb2
        clear hown r2 hcs hb2 hz2
        go_wp2_with fail
        go_loopw [8, 10, 33] (fun o _ idx wr => ∃ (k : Nat) (qs : List GrV), idx = .int .i64 k ∧ k ≤ n ∧ qs.map (·.1) = l.take k ∧ qs.length = k ∧ wr.ownsRow w1.heap.size 41 3 o k (qs.flatMap rowG) ∧ (∀ q ∈ qs, Ok64 q.1.2 ∧ ApartB w1.heap.size o.ownBlock wr q.2 q.1.1.nodes) ∧ Below w1.heap.size w1 wr) (fun _ _ idx _ => n - (intOf idx).toNat)
        case atStart => exact ⟨0, [], rfl, by omega, rfl, rfl, HOWN.out, fun q hq => (by simp at hq), B2.out⟩
        case round =>
          obtain ⟨k, qs, rfl, hk, hqs, hqk, hown, hnr, hbr⟩ := hrel
          obtain ⟨oa, om, oc, rfl⟩ := own_shape hown
          have HQS := Lib.hid hqs
          have HO := Lib.hid hown
          have HNR := Lib.hid hnr
          have BR := Lib.hid hbr
          have BRW := Lib.hid (show Below w.heap.size w wr from B1.out.trans (hbr.mono (by omega)))
          have HQK := Lib.hid hqk
          have hz := hbr.size
          clear HOWN B2
          by_cases hlt : k < n
          · obtain ⟨p, hp⟩ := getElem?_ex (l := ps) (k := k) (by rw [HQL.out]; exact hlt)
            obtain ⟨b, o, rfl, hb, c0, c1, c2⟩ := HP3.out k p hp
            have hlp : l[k]? = some p.1 := by rw [← HP1.out, List.getElem?_map, hp]; rfl
            have e0 := (BRW.out.cell (p := ⟨b, o + k * 3, none⟩) hb).trans c0
            have e1 := (BRW.out.cell (p := ⟨b, o + k * 3 + 1, none⟩) hb).trans c1
            have e2 := (BRW.out.cell (p := ⟨b, o + k * 3 + 2, none⟩) hb).trans c2
            have hnp := (HP2.out p (List.mem_of_getElem? hp)).2
            have hzo := (HP2.out p (List.mem_of_getElem? hp)).1
            have HT := Lib.hid (show TreeR w (.agg #[.int .i64 p.1.1.dim, p.2]) p.1.1 from ⟨p.2, rfl, hnp⟩)
            have hsm := HS.out p.1 (List.mem_of_getElem? hlp)
            have HC := Lib.hid (fun W (hW : TreeR W (.agg #[.int .i64 p.1.1.dim, p.2]) p.1.1) => copied_any _ p.1.1 W hW hsm.1 hsm.2)
            have HTK := Lib.hid (show l.take (k + 1) = l.take k ++ [p.1] by rw [List.take_add_one, hlp]; rfl)
            obtain ⟨na, nc, hpv, _⟩ := hnp
            obtain ⟨tn, htn⟩ : ∃ tn, p.1.1.nodes.length = tn := ⟨_, rfl⟩
            rw [hpv, htn] at e1 HT HC
            have i1 : (0 : Int) ≤ (k : Int) := by omega
            have i2 : (k : Int) < (n : Int) := by omega
            have hw1 := B1.out.size
            have hbz : b < wr.heap.size := by omega
            have hbz2 : b ≠ wr.heap.size := by omega
            clear c0 c1 c2 hp hlp hsm hown hnr hbr hqs hpv hqk htn
            obtain ⟨p1, p2⟩ := p
            obtain ⟨t, z⟩ := p1
            dsimp only at e0 e1 e2 HT HC HTK hzo
            obtain ⟨d, hd⟩ : ∃ d, t.dim = d := ⟨_, rfl⟩
            rw [hd] at e0 HT HC
            have HD := Lib.hid hd
            clear hd
            have NOW := Lib.hid (show ∀ q, (Value.slice oa om oc).ownBlock = some q → q ≠ wr.heap.size from fun q e => by have := (HO.out.lt q e).2; omega)
            go_upto_region 11 with fail
            refine wp_region_held_drew (S := fun w' => w'.cell? ⟨wr.heap.size, 0, none⟩ = some (.int .i64 d) ∧ w'.cell? ⟨wr.heap.size, 1, none⟩ = some (.slice na tn nc) ∧ w'.cell? ⟨wr.heap.size, 2, none⟩ = some (.int .i64 z)) (by kernel_rfl) ?_ (fun hHeld => ?_); (focus (first | with_reducible exact True.intro | ((try dsimp only); and_intros <;> first | (go_simp; done) | (go_keep; done)))); (refine lexTk 0 (v := ?_) rfl hHeld ?_ (by kernel_rfl) (fun _ _ _ h => h) ?_ ?_; rotate_left 2; (focus rfl); (focus (intro w hSw; (try dsimp only at hSw); first | (go_simp; done) | (go_simp; with_reducible rfl)))); (try simp only [Act.put, List.setIfInBounds_toArray, List.set_cons_zero, List.set_cons_succ]); (refine lexTk 1 (v := ?_) rfl hHeld ?_ (by kernel_rfl) (fun _ _ _ h => h) ?_ ?_; rotate_left 2; (focus rfl); (focus (intro w hSw; (try dsimp only at hSw); first | (go_simp; done) | (go_simp; with_reducible rfl)))); (try simp only [Act.put, List.setIfInBounds_toArray, List.set_cons_zero, List.set_cons_succ]); (refine lexTk 2 (v := ?_) rfl hHeld ?_ (by kernel_rfl) (fun _ _ _ h => h) ?_ ?_; rotate_left 2; (focus rfl); (focus (intro w hSw; (try dsimp only at hSw); first | (go_simp; done) | (go_simp; with_reducible rfl)))); (try simp only [Act.put, List.setIfInBounds_toArray, List.set_cons_zero, List.set_cons_succ]); (refine lexTk 4 (v := ?_) rfl hHeld ?_ (by kernel_rfl) (fun _ _ _ h => h) ?_ ?_; rotate_left 2; (focus rfl); (focus (intro w hSw; (try dsimp only at hSw); first | (go_simp; done) | (go_simp; with_reducible rfl)))); (try simp only [Act.put, List.setIfInBounds_toArray, List.set_cons_zero, List.set_cons_succ]); (refine lexTk 5 (v := ?_) rfl hHeld ?_ (by kernel_rfl) (fun _ _ _ h => h) ?_ ?_; rotate_left 2; (focus rfl); (focus (intro w hSw; (try dsimp only at hSw); first | (go_simp; done) | (go_simp; with_reducible rfl)))); (try simp only [Act.put, List.setIfInBounds_toArray, List.set_cons_zero, List.set_cons_succ]); refine lexHv 3 rfl ?_ (by kernel_rfl); (intro K hK); (go_simp; (go_at_call 48); ((with_reducible refine (HC.out _ ((HT.out.below BRW.out).below (by (repeat (first | with_reducible exact Below.refl _ _ | with_reducible refine Bs ?_ | with_reducible refine Ba ?_ | with_reducible refine Bd ?_ | with_reducible refine Bn ?_))))).mono ?_)); (rintro e w4 ⟨nv, rfl, n4, b4⟩); (have B4 := Lib.hid (show Below wr.heap.size wr w4 from below_tr (by (repeat (first | with_reducible exact Below.refl _ _ | with_reducible refine Bs ?_ | with_reducible refine Ba ?_ | with_reducible refine Bd ?_ | with_reducible refine Bn ?_))) (b4.mono (by first | omega | (simp; done) | (simp; omega))))); (have N4 := Lib.hid (show NodesF (wr.heap.size + 1) w4 nv t.nodes by simpa using n4)); (obtain ⟨a4, c4, rfl, _⟩ := n4.now); (obtain ⟨tn4, htn4⟩ : ∃ tn, t.nodes.length = tn := ⟨_, rfl⟩); (rw [htn4] at N4); (try rw [htn4]); (have y0 : w4.cell? ⟨wr.heap.size, 0, none⟩ = some (.int .i64 d) := (b4.cell (by first | omega | (simp; done) | (simp; omega))).trans (by go_simp)); (have y1 : w4.cell? ⟨wr.heap.size, 1, none⟩ = some (.slice na tn nc) := (b4.cell (by first | omega | (simp; done) | (simp; omega))).trans (by go_simp)); (have y2 : w4.cell? ⟨wr.heap.size, 2, none⟩ = some (.int .i64 z) := (b4.cell (by first | omega | (simp; done) | (simp; omega))).trans (by go_simp)); (have zs4 := B4.out.size); (have zt4 : wr.heap.size < w4.heap.size := by have := b4.size; simp at this; omega); (clear b4 n4 htn4); (try go_wp2_with fail)); refine hK.out _ _ ?_ ?_; (focus (first | with_reducible exact True.intro | ((try dsimp only); and_intros <;> first | (go_simp; done) | (go_keep; done)))); (clear hHeld hK K); (intro hHeld); (try simp only [Act.put, List.setIfInBounds_toArray, List.set_cons_zero, List.set_cons_succ]); (refine lexTk 6 (v := ?_) rfl hHeld ?_ (by kernel_rfl) (fun _ _ _ h => h) ?_ ?_; rotate_left 2; (focus rfl); (focus (intro w hSw; (try dsimp only at hSw); first | (go_simp; done) | (go_simp; with_reducible rfl)))); (try simp only [Act.put, List.setIfInBounds_toArray, List.set_cons_zero, List.set_cons_succ]); refine lexHv 7 rfl ?_ (by kernel_rfl); (intro K hK); (go_simp); refine hK.out _ _ ?_ ?_; (focus (first | with_reducible exact True.intro | ((try dsimp only); and_intros <;> first | (go_simp; done) | (go_keep; done)))); (clear hHeld hK K); (intro hHeld); (try simp only [Act.put, List.setIfInBounds_toArray, List.set_cons_zero, List.set_cons_succ]); refine lexHv 8 rfl ?_ (by kernel_rfl); (intro K hK); ((refine app1N_step rfl _ _ 22 rfl Try.underlying22 eiGrown w1.heap.size (by rfl) (own_keep HO.out fun g _ hg => B4.out.block g hg) (by rfl) (by rfl) rfl (by simp [Value.oneCell']) (by omega) (by omega) ?_); (intro v5 w5 o5 g5 nb5); (have O5 := Lib.hid o5); (have B5 := Lib.hid (show Below w1.heap.size w1 w5 from (BR.out.trans (B4.out.mono hz)).grown g5 (by omega) (fun q hq => (HO.out.lt q hq).1))); (have x0 : w5.cell? ⟨wr.heap.size, 0, none⟩ = some (.int .i64 d) := (gcell g5 (by first | omega | (simp; done) | (simp; omega)) (fun e => NOW.out _ e rfl)).trans (by go_simp)); (have x1 : w5.cell? ⟨wr.heap.size, 1, none⟩ = some (.slice na tn nc) := (gcell g5 (by first | omega | (simp; done) | (simp; omega)) (fun e => NOW.out _ e rfl)).trans (by go_simp)); (have x2 : w5.cell? ⟨wr.heap.size, 2, none⟩ = some (.int .i64 z) := (gcell g5 (by first | omega | (simp; done) | (simp; omega)) (fun e => NOW.out _ e rfl)).trans (by go_simp)); (have NR5 := Lib.hid (show ∀ q ∈ qs ++ [((t, z), .slice a4 tn4 c4)], Ok64 q.1.2 ∧ ApartB w1.heap.size v5.ownBlock w5 q.2 q.1.1.nodes from fun q hq => by rcases List.mem_append.1 hq with hq | hq; (exact ⟨(HNR.out q hq).1, ((HNR.out q hq).2.later B4.out (Nat.le_refl _)).grown g5 nb5⟩); (obtain rfl : q = ((t, z), .slice a4 tn4 c4) := by simpa using hq); exact ⟨hzo, (N4.out.apartB (by omega) (fun b hb => by have := (HO.out.lt b hb).2; omega)).grown g5 nb5⟩)); (clear o5 g5 nb5)); refine hK.out _ _ ?_ ?_; (focus (first | with_reducible exact True.intro | ((try dsimp only); and_intros <;> first | (go_simp; done) | (go_keep; done)))); (clear hHeld hK K); (intro hHeld); (try simp only [Act.put, List.setIfInBounds_toArray, List.set_cons_zero, List.set_cons_succ]); (refine lexTk 9 (v := ?_) rfl hHeld ?_ (by kernel_rfl) (fun _ _ _ h => h) ?_ ?_; rotate_left 2; (focus rfl); (focus (intro w hSw; (try dsimp only at hSw); first | (go_simp; done) | (go_simp; with_reducible rfl)))); (try simp only [Act.put, List.setIfInBounds_toArray, List.set_cons_zero, List.set_cons_succ]); refine wpAnyH_done (by kernel_rfl) ?_ _
            all_goals
              go_wp2_with fail
              go_roundw
              case rel => exact ⟨k + 1, qs ++ [((t, z), .slice a4 tn4 c4)], by go_num, by omega, by rw [List.map_append, HQS.out, HTK.out]; rfl, by rw [List.length_append, HQK.out]; rfl, by have := O5.out; rw [← HD.out] at this; simpa [rowG] using this, NR5.out, B5.out⟩
              case measure => simp [intOf] <;> omega
          · obtain rfl : k = n := by omega
            have hw1 := B1.out.size
            have hqs2 : qs.map (·.1) = l := by rw [hqs, List.take_of_length_le (by rw [HN.out]; omega)]
            have HQS2 := Lib.hid hqs2
            obtain rfl : k = om := by
              rcases hown.2 with ⟨e, h0⟩ | ⟨_, _, _, e, _⟩
              · injection e with _ e _; omega
              · injection e with _ e _; exact e.symm
            have y0 := (hbr.cell (p := ⟨w.heap.size, 0, none⟩) l1_0).trans c1_0
            have y1 := (hbr.cell (p := ⟨w.heap.size, 1, none⟩) l1_0).trans c1_1
            have y2 := (hbr.cell (p := ⟨w.heap.size, 2, none⟩) l1_0).trans c1_2
            have z0 := (hbr.frozen (p := ⟨w.heap.size, 0, none⟩) l1_0).trans f1_0
            have z1 := (hbr.frozen (p := ⟨w.heap.size, 1, none⟩) l1_0).trans f1_1
            have hHr : w.heap.size < wr.heap.size := by omega
            clear hqs hqs2 hown hnr hqk c1_0 c1_1 c1_2 f1_0 f1_1 f1_2
            go_wp2_with fail
            (with_reducible refine (HCG.out _ (HGT.out.below BRW.out)).mono ?_)
            rintro e w4 ⟨nv, rfl, n4, b4⟩
            have B4 := Lib.hid (show Below wr.heap.size wr w4 from b4)
            have N4 := Lib.hid (show NodesF wr.heap.size w4 nv g.1.nodes from n4)
            obtain ⟨a4, c4, rfl, _⟩ := n4.now
            rw [HGM.out] at N4 ⊢
            have hz4 := b4.size
            have y0 := (b4.cell (p := ⟨w.heap.size, 0, none⟩) hHr).trans y0
            have y1 := (b4.cell (p := ⟨w.heap.size, 1, none⟩) hHr).trans y1
            have y2 := (b4.cell (p := ⟨w.heap.size, 2, none⟩) hHr).trans y2
            have z0 := (b4.frozen (p := ⟨w.heap.size, 0, none⟩) hHr).trans z0
            have z1 := (b4.frozen (p := ⟨w.heap.size, 1, none⟩) hHr).trans z1
            have hHw : w.heap.size < w4.heap.size := by omega
            clear b4 n4
            have HO5 := Lib.hid (show ((w4.setCell ⟨w.heap.size, 0, none⟩ (.int .i64 gd)).setCell ⟨w.heap.size, 1, none⟩ (.slice a4 gm c4)).ownsRow w1.heap.size 41 3 (.slice oa k oc) k (qs.flatMap rowG) from own_at (own_keep HO.out fun g' _ hg' => B4.out.block g' hg') fun g' hg' => by
              have := (HO.out.lt g' hg').1
              exact (Below.heap_setCell _ _ _ _ (show g' ≠ w.heap.size by omega)).trans (Below.heap_setCell _ _ _ _ (show g' ≠ w.heap.size by omega)))
            have HNR5 := Lib.hid (show ∀ q ∈ qs ++ [(g, .slice a4 gm c4)], Ok64 q.1.2 ∧ ApartB w1.heap.size (Value.slice oa k oc).ownBlock ((w4.setCell ⟨w.heap.size, 0, none⟩ (.int .i64 gd)).setCell ⟨w.heap.size, 1, none⟩ (.slice a4 gm c4)) q.2 q.1.1.nodes from fun q hq => by
              rcases List.mem_append.1 hq with hq | hq
              · exact ⟨(HNR.out q hq).1, (((HNR.out q hq).2.later B4.out (Nat.le_refl _)).set _ _ _ (.inl (by omega))).set _ _ _ (.inl (by omega))⟩
              · obtain rfl : q = (g, .slice a4 gm c4) := by simpa using hq
                exact ⟨HGO.out, ((N4.out.apartB hz (fun b hb => (HO.out.lt b hb).2)).set _ _ _ (.inl (by omega))).set _ _ _ (.inl (by omega))⟩)
            have B5 := Lib.hid (show Below w.heap.size w ((w4.setCell ⟨w.heap.size, 0, none⟩ (.int .i64 gd)).setCell ⟨w.heap.size, 1, none⟩ (.slice a4 gm c4)) from ((BRW.out.trans (B4.out.mono (by omega))).setCell (Nat.le_refl _) _).setCell (Nat.le_refl _) _)
            by_cases hin : k0 = k
            · have j1 : ((k0 : Int) == (k : Int)) = true := by simp [hin]
              go_wp2_with (at_builtin; go_must (refine app1N rfl _ _ 22 rfl Try.underlying22 eiGrown w1.heap.size (by rfl) HO5.out (by rfl) (by simp) rfl (by simp [Value.oneCell']) (by omega) (by first | omega | (simp; omega)) ?_))
              intro v6 w6 o6 g6 nb6
              have B6 := Lib.hid (show Below w.heap.size w w6 from B5.out.grown g6 (by first | omega | (simp; omega)) (fun q hq => by have := (HO.out.lt q hq).1; omega))
              have hgr : GrownsR w6 v6 PL := by
                have := own_growns (ps := qs ++ [(g, .slice a4 gm c4)]) (by rw [List.flatMap_append]; simpa [rowG, HGD.out, HGZ.out] using o6) (by rw [List.length_append, HQK.out]; rfl) (by omega) (fun p hp => ⟨(HNR5.out p hp).1, ((HNR5.out p hp).2.grown g6 nb6).now⟩)
                rw [List.map_append, HQS2.out] at this
                rw [← HPL.out]
                unfold putF
                rw [if_pos (by rw [HN.out]; exact hin)]
                exact this
              have HGR := Lib.hid hgr
              obtain ⟨ra, rc, rfl, _⟩ := hgr
              clear o6 g6 nb6
              cases PB with
              | false =>
                have GE := Lib.hid (show E = 100 by rw [← HEE.out, if_pos rfl])
                have GL := Lib.hid (fputL_no (show fputE l k0 g ≠ 0 by rw [HE.out, GE.out]; decide))
                go_wp2_with fail
                (with_reducible refine (HI2.out _ _ HGR.out).mono ?_)
                rintro e w7 ⟨rfl, b7⟩
                have B7 := Lib.hid (show Below w.heap.size w w7 from B6.out.trans (b7.mono B6.out.size))
                clear b7
                go_wp2_with fail
                exact bodyPost_ret (v := .tuple #[.slice none 0 0, .int .i64 100]) (by simp [results, Try.results24, go_sem]) rfl ⟨_, by rw [GE.out], by rw [GL.out]; exact growns_nil _ _ (by omega), B7.out⟩
              | true =>
                have GE := Lib.hid (show E = 0 by rw [← HEE.out, if_neg (by decide)])
                have GL := Lib.hid (show fputL l k0 g = PL by rw [fputL_yes (by rw [HE.out, GE.out]), Int.toNat_natCast, HPL.out])
                go_wp2_with fail
                (with_reducible refine (HI2.out _ _ HGR.out).mono ?_)
                rintro e w7 ⟨rfl, b7⟩
                have G7 := Lib.hid (HGR.out.below b7)
                have B7 := Lib.hid (show Below w.heap.size w w7 from B6.out.trans (b7.mono B6.out.size))
                clear b7
                go_wp2_with fail
                exact bodyPost_ret (v := .tuple #[.slice ra PL.length rc, .int .i64 0]) (by simp [results, Try.results24, go_sem]) rfl ⟨_, by rw [GE.out], by rw [GL.out]; exact G7.out, B7.out⟩
            · have j1 : ((k0 : Int) == (k : Int)) = false := by rw [beq_eq_false_iff_ne]; omega
              have hlt2 : k0 < k := by omega
              obtain ⟨g5, c, hgc, hg1, hg2⟩ := own_some2 HO5.out (by omega)
              injection hgc with ha _ hc
              subst ha hc
              simp only [World.size_setCell] at hg2
              obtain ⟨q, hq⟩ := getElem?_ex (l := qs) (k := k0) (by rw [HQK.out]; exact hlt2)
              obtain ⟨r0, r1, r2⟩ := rowG_at qs k0 q hq
              have hH5 : w.heap.size ≠ g5 := by omega
              have hG5 : g5 ≠ w.heap.size := by omega
              have HO4 := Lib.hid (own_keep HO.out fun g' _ hg' => B4.out.block g' hg')
              have x0 := (HO4.out.cellAt (k0 * 3) (by omega)).trans r0
              have x1 := (HO4.out.cellAt (k0 * 3 + 1) (by omega)).trans r1
              have x2 := (HO4.out.cellAt (k0 * 3 + 2) (by omega)).trans r2
              obtain ⟨cur, _, _, _, hrow, _⟩ := own_rowAt HO4.out
              have u0 := hrow.frozen (k0 * 3)
              have u1 := hrow.frozen (k0 * 3 + 1)
              have u2 := hrow.frozen (k0 * 3 + 2)
              have i1 : (0 : Int) ≤ (k0 : Int) := by omega
              have i2 : (k0 : Int) < (k : Int) := by omega
              clear hrow r0 r1 r2 hq
              have o6 := own_setAt (own_setAt (own_setAt HO5.out (k0 * 3) (.int .i64 gd)) (k0 * 3 + 1) (.slice a4 gm c4)) (k0 * 3 + 2) (.int .i64 gz)
              have hset := rowG_set qs k0 (g, .slice a4 gm c4) (by rw [HQK.out]; exact hlt2)
              rw [HGD.out, HGZ.out] at hset
              rw [hset] at o6
              have hgr := own_growns (ps := qs.set k0 (g, .slice a4 gm c4)) o6 (by rw [List.length_set, HQK.out]) (by omega) (fun p hp => by
                have hp2 : p ∈ qs ++ [(g, .slice a4 gm c4)] := by
                  rcases List.mem_or_eq_of_mem_set hp with hp | rfl
                  · exact List.mem_append_left _ hp
                  · simp
                exact ⟨(HNR5.out p hp2).1, ((((HNR5.out p hp2).2.set g5 _ _ (.inr rfl)).set g5 _ _ (.inr rfl)).set g5 _ _ (.inr rfl)).now⟩)
              rw [List.map_set, HQS2.out] at hgr
              have hpf : l.set k0 g = PL := by
                rw [← HPL.out]
                unfold putF
                rw [if_neg (by rw [HN.out]; exact hin)]
              rw [hpf] at hgr
              have HGR := Lib.hid hgr
              have B6 := Lib.hid (show Below w.heap.size w (((((w4.setCell ⟨w.heap.size, 0, none⟩ (.int .i64 gd)).setCell ⟨w.heap.size, 1, none⟩ (.slice a4 gm c4)).setCell ⟨g5, k0 * 3, none⟩ (.int .i64 gd)).setCell ⟨g5, k0 * 3 + 1, none⟩ (.slice a4 gm c4)).setCell ⟨g5, k0 * 3 + 2, none⟩ (.int .i64 gz)) from ((B5.out.setCell (show w.heap.size ≤ g5 by omega) _).setCell (show w.heap.size ≤ g5 by omega) _).setCell (show w.heap.size ≤ g5 by omega) _)
              have HPLL := Lib.hid (show PL.length = k by rw [← hpf, List.length_set, HN.out])
              clear o6 hset hgr hpf
              cases PB with
              | false =>
                have GE := Lib.hid (show E = 100 by rw [← HEE.out, if_pos rfl])
                have GL := Lib.hid (fputL_no (show fputE l k0 g ≠ 0 by rw [HE.out, GE.out]; decide))
                go_wp2_with fail
                (with_reducible refine (HI2.out _ _ HGR.out).mono ?_)
                rintro e w7 ⟨rfl, b7⟩
                have B7 := Lib.hid (show Below w.heap.size w w7 from B6.out.trans (b7.mono B6.out.size))
                clear b7
                go_wp2_with fail
                exact bodyPost_ret (v := .tuple #[.slice none 0 0, .int .i64 100]) (by simp [results, Try.results24, go_sem]) rfl ⟨_, by rw [GE.out], by rw [GL.out]; exact growns_nil _ _ (by omega), B7.out⟩
              | true =>
                have GE := Lib.hid (show E = 0 by rw [← HEE.out, if_neg (by decide)])
                have GL := Lib.hid (show fputL l k0 g = PL by rw [fputL_yes (by rw [HE.out, GE.out]), Int.toNat_natCast, HPL.out])
                go_wp2_with fail
                (with_reducible refine (HI2.out _ _ HGR.out).mono ?_)
                rintro e w7 ⟨rfl, b7⟩
                have G7 := Lib.hid (HGR.out.below b7)
                have B7 := Lib.hid (show Below w.heap.size w w7 from B6.out.trans (b7.mono B6.out.size))
                clear b7
                go_wp2_with fail
                exact bodyPost_ret (v := .tuple #[.slice (some ⟨g5, 0, none⟩) k oc, .int .i64 0]) (by simp [results, Try.results24, go_sem]) rfl ⟨_, by rw [GE.out], by rw [GL.out]; exact G7.out, B7.out⟩
end Go.Proofs.Ytdbonlpkmncggaa
