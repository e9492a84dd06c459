/-
  ItemU: Walk of the reference's GetConf.
-/
import Derived.Test.YtjmjnkilgoelbaaKItemT
import Derived.Test.YtjmjnkilgoelbaaJ2a
namespace Go.Proofs.Ytjmjnkilgoelbaa
open Go.RowKit

theorem OwnI.app2 {w : World} {base : Nat} {v' : Value} {acc : List Int} {x : Int} (h : w.ownsRow base 3 1 v' (acc.length + 1) (acc.map (Value.int .i64) ++ (#[Value.int .i64 x] : Array Value).toList)) : w.ownsRow base 3 1 v' (acc ++ [x]).length ((acc ++ [x]).map (Value.int .i64)) := by simpa using h

/-- app1, with the new block's number by itself. -/
theorem app1b {P : Program} {ops : Array Oper} {rest : List Oper} {o : Oper} {a : Act} {Q : Exit → Act → World → Prop} (hgd : o.guard = none) (s x : Operand) (t : TypeId)
    (ho : o.op = .call { callee := .builtin .append, args := #[s, x], argTypes := #[t, t] })
    {e : TypeId} {z : Value} {size bytes : Nat} (ht : P.underlying t = some (.slice e)) (hE : EI P e z size bytes)
    (base : Nat) {v : Value} {n : Nat} {xs : List Value} {W : World} {cs : Array Value} {T : TypeId} {C : Nat} (b : Nat) (hb : b = W.heap.size) (hs : a.eval s = v) (hown : W.ownsRow base e size v n xs)
    (hx : a.eval x = .slice (some ⟨b, 0, none⟩) 1 C) (hcs : cs.size = size) (h1 : ∀ u ∈ cs.toList, u.oneCell' = true)
    (hbytes : (n + 1) * bytes ≤ 140737488355328) (hbase : base ≤ W.heap.size)
    (h : ∀ v' w', w'.ownsRow base e size v' (n + 1) (xs ++ cs.toList) → Below base W w' → W.grownBy w' v.ownBlock → wpList P ops Q rest (a.put o.dst v') w') :
    wpList P ops Q (o :: rest) a (W.alloc (.cells cs T)) := by
  subst hb
  exact app1 hgd s x t ho ht hE base hs hown hx hcs h1 hbytes hbase h

theorem froz_of {w w' : World} {b o : Nat} (h : w'.heap[b]? = w.heap[b]?) : w'.frozen? ⟨b, o, none⟩ = w.frozen? ⟨b, o, none⟩ := by
  simp only [World.frozen?, h]

theorem OwnI.alloc {w : World} {base n : Nat} {e : TypeId} {v : Value} {xs : List Value} (h : w.ownsRow base e 1 v n xs) (o : Obj) : (w.alloc o).ownsRow base e 1 v n xs := h.alloc o

theorem OwnI.setC {w : World} {base n : Nat} {e : TypeId} {v : Value} {xs : List Value} {A : Addr} {u : Value} (h : w.ownsRow base e 1 v n xs) (hA : A.block < base := by first | omega | (simp; omega)) : (w.setCell A u).ownsRow base e 1 v n xs := ownsRow_setCell_below h hA u

set_option maxRecDepth 100000 in
set_option maxHeartbeats 16000000 in
theorem rgetConf_any (vr : Value) (l : List Int) (a : Nat) (e0 : Int) (w : World) (h : Ints .u8 w vr l) (hb : AllB l) (ha : a ≤ l.length) (hl : l.length ≤ 100000) (c0 c1 c2 c3 c4 c5 c6 c7 c8 c9 c10 : Int) (a11 : Nat) (e11 : Int) (hR : rdNs l 11 a e0 = ([c0, c1, c2, c3, c4, c5, c6, c7, c8, c9, c10], a11, e11)) (E : Int) (hE : E = finE e11 (confB11 c0 c1 c2 c3 c4 c5 c6 c7 c8 c9 c10)) :
    Calls Try.prog 45 #[.agg #[vr, .int .i64 a, .int .i64 e0]] w fun e w' => ∃ val, e = .returned (.tuple #[.agg #[vr, .int .i64 a11, .int .i64 E], val]) ∧ (E = 0 → val = .agg #[.int .i64 c0, .int .i64 c1, .int .i64 c2, .int .i64 c3, .int .i64 c4, .int .i64 c5, .int .i64 c6, .int .i64 c7, .int .i64 c8, .int .i64 c9, .int .i64 c10]) ∧ (E ≠ 0 → val = .agg #[.int .i64 0, .int .i64 0, .int .i64 0, .int .i64 0, .int .i64 0, .int .i64 0, .int .i64 0, .int .i64 0, .int .i64 0, .int .i64 0, .int .i64 0]) ∧ Below w.heap.size w w' := by
  have I0 := Lib.hid h
  have HB := Lib.hid hb
  have HL := Lib.hid hl
  obtain ⟨ad, c, rfl⟩ := h.shape
  have HRI := Lib.hid (fun W => rright20_any c0 c1 c2 c3 c4 c5 c6 c7 c8 c9 c10 W)
  obtain ⟨B, hB⟩ : ∃ B, confB11 c0 c1 c2 c3 c4 c5 c6 c7 c8 c9 c10 = B := ⟨_, rfl⟩
  rw [hB] at HRI hE
  have HF := Lib.hid (fun W => rform_any ad l.length c (a11 : Int) e11 B W)
  rw [← hE] at HF
  have HR0 := Lib.hid hR
  have HA := Lib.hid ha
  obtain ⟨cs, hcs⟩ : ∃ cs, [c0, c1, c2, c3, c4, c5, c6, c7, c8, c9, c10] = cs := ⟨_, rfl⟩
  rw [hcs] at HR0
  have HCS := Lib.hid hcs
  have hcl : cs.length = 11 := by rw [← hcs]; rfl
  have HCL := Lib.hid hcl
  clear h hb hl hB hE hR ha hcs hcl
  obtain ⟨ln, hln⟩ : ∃ ln, l.length = ln := ⟨_, rfl⟩
  rw [hln] at I0 HF ⊢
  have HLN := Lib.hid hln
  clear hln
  go_enter Try.func45, Try.ntmps45
  go_wp2_with fail
  obtain ⟨W0, hW0⟩ : ∃ W0, W0 = ((w.alloc (.cells #[.slice ad ln c, .int .i64 a, .int .i64 e0] 56)).alloc (.cells #[.slice none 0 0, .int .i64 0, .int .i64 0] 56)).alloc (.cells #[.int .i64 0, .int .i64 0, .int .i64 0, .int .i64 0, .int .i64 0, .int .i64 0, .int .i64 0, .int .i64 0, .int .i64 0, .int .i64 0, .int .i64 0] 73) := ⟨_, rfl⟩
  have sW0 : W0.heap.size = w.heap.size + 3 := by rw [hW0]; simp
  have bW0 : Below w.heap.size w W0 := by rw [hW0]; exact (by (repeat (first | with_reducible exact Below.refl _ _ | with_reducible refine Bs ?_ | with_reducible refine Ba ?_ | with_reducible refine Bd ?_ | with_reducible refine Bn ?_)))
  have k0 : W0.cell? ⟨w.heap.size, 0, none⟩ = some (.slice ad ln c) := by rw [hW0]; go_simp
  have k1 : W0.cell? ⟨w.heap.size, 1, none⟩ = some (.int .i64 a) := by rw [hW0]; go_simp
  have k2 : W0.cell? ⟨w.heap.size, 2, none⟩ = some (.int .i64 e0) := by rw [hW0]; go_simp
  have f0 : W0.frozen? ⟨w.heap.size, 0, none⟩ = false := by rw [hW0]; go_simp
  have f1 : W0.frozen? ⟨w.heap.size, 1, none⟩ = false := by rw [hW0]; go_simp
  have f2 : W0.frozen? ⟨w.heap.size, 2, none⟩ = false := by rw [hW0]; go_simp
  rw [← hW0]
  have HW0 := Lib.hid hW0
  clear hW0
  go_loopw [4, 5] (fun v i wr => ∃ (k : Nat) (acc : List Int) (ak : Nat) (ek : Int), i = .int .i64 k ∧ k ≤ 11 ∧ acc.length = k ∧ wr.ownsRow W0.heap.size 3 1 v acc.length (acc.map (Value.int .i64)) ∧
    (∃ q, rdNs l (11 - k) ak ek = (q, a11, e11) ∧ acc ++ q = cs) ∧ ak ≤ l.length ∧ Below w.heap.size w wr ∧ W0.heap.size ≤ wr.heap.size ∧ wr.heap[w.heap.size + 1]? = W0.heap[w.heap.size + 1]? ∧ wr.heap[w.heap.size + 1 + 1]? = W0.heap[w.heap.size + 1 + 1]? ∧
    wr.cell? ⟨w.heap.size, 0, none⟩ = some (.slice ad ln c) ∧ wr.cell? ⟨w.heap.size, 1, none⟩ = some (.int .i64 ak) ∧ wr.cell? ⟨w.heap.size, 2, none⟩ = some (.int .i64 ek) ∧
    wr.frozen? ⟨w.heap.size, 0, none⟩ = false ∧ wr.frozen? ⟨w.heap.size, 1, none⟩ = false ∧ wr.frozen? ⟨w.heap.size, 2, none⟩ = false) (fun _ i _ => 11 - (intOf i).toNat)
  case atStart => exact ⟨0, [], a, e0, rfl, by omega, rfl, World.ownsRow_nil _ _ _ _, ⟨cs, HR0.out, rfl⟩, HA.out, bW0, Nat.le_refl _, rfl, rfl, k0, k1, k2, f0, f1, f2⟩
  case round =>
    clear k0 k1 k2 f0 f1 f2
    obtain ⟨k, acc, ak, ek, rfl, hk, hak, ho, ⟨q, hq1, hq2⟩, hal, hbr, hsz, hk1, hk2, u0', u1', u2', g0, g1', g2'⟩ := hrel
    have HO := Lib.hid ho
    have HBR := Lib.hid hbr
    have HQ := Lib.hid hq1
    have HQ2 := Lib.hid hq2
    have HK1 := Lib.hid hk1
    have HK2 := Lib.hid hk2
    have HAK := Lib.hid hak
    clear ho hbr hq1 hq2 hk1 hk2
    by_cases hlt : k < 11
    · obtain ⟨r, hr⟩ : ∃ r, rdN' l ak ek 1099511627776 = r := ⟨_, rfl⟩
      obtain ⟨x, a1, e1⟩ := r
      obtain ⟨q2, hq2⟩ : ∃ q2, rdNs l (11 - (k + 1)) a1 e1 = q2 := ⟨_, rfl⟩
      have HN := Lib.hid (fun v W hW => rdN_ref HB.out hal HL.out 1099511627776 (by decide) _ _ _ hr v W hW)
      have l1 := rdN'_le HB.out hal ek 1099511627776
      rw [hr] at l1
      have hstep := rdNs_step (n := 11 - (k + 1)) hr hq2
      rw [show 11 - (k + 1) + 1 = 11 - k by omega, HQ.out] at hstep
      injection hstep with hs1 hs2
      have HQN := Lib.hid (show ∃ q, rdNs l (11 - (k + 1)) a1 e1 = (q, a11, e11) ∧ (acc ++ [(x : Int)]) ++ q = cs from ⟨q2.1, by rw [hq2]; exact Prod.ext rfl hs2.symm, by rw [List.append_assoc, ← HQ2.out, hs1]; rfl⟩)
      have i2 : (k : Int) < 11 := by omega
      clear hr hq2 hs1 hs2
      have hx64 : True := trivial
      go_wp2_with fail
      (with_reducible refine (HN.out _ _ (I0.out.below (by (repeat (first | with_reducible exact Below.refl _ _ | with_reducible refine Bs ?_ | with_reducible refine Ba ?_ | with_reducible refine Bd ?_ | with_reducible refine Bn ?_ | with_reducible refine Bt HBR.out ?_))))).mono ?_)
      rintro e w1 ⟨rfl, b1⟩
      obtain ⟨d0, j0, d1, j1, d2, j2⟩ := k3f (w.heap.size) (.slice ad ln c) (.int .i64 ak) (.int .i64 ek) b1 ⟨u0', g0, u1', g1', u2', g2'⟩
      have s1 : wr.heap.size ≤ w1.heap.size := sz b1
      have HO1 := Lib.hid (own_keep HO.out (fun g _ hg => b1.block g hg))
      have B1 := Lib.hid (Bc (B := w.heap.size) (a := w) (by (repeat (first | with_reducible exact Below.refl _ _ | with_reducible refine Bs ?_ | with_reducible refine Ba ?_ | with_reducible refine Bd ?_ | with_reducible refine Bn ?_ | with_reducible refine Bt HBR.out ?_))) b1)
      have HK11 := Lib.hid ((b1.block _ (by omega)).trans HK1.out)
      have HK21 := Lib.hid ((b1.block _ (by omega)).trans HK2.out)
      have nn0 : w.heap.size ≠ w1.heap.size := by omega
      have nn1 : w1.heap.size ≠ w.heap.size := by omega
      have nn2 : w.heap.size < w1.heap.size := by omega
      clear b1 u0' u1' u2' g0 g1' g2'
      go_wp2_with (at_builtin; go_must (refine app1b rfl _ _ 61 rfl Try.underlying61 eiInt W0.heap.size (w1.heap.size + 1) (by simp) (v := u4) (by rfl) (show World.ownsRow _ W0.heap.size 3 1 u4 acc.length (acc.map (Value.int .i64)) from by repeat (first | exact HO1.out | refine OwnI.setC ?_ | refine OwnI.alloc ?_ _)) (by rfl) rfl (by simp [Value.oneCell']) (by have := HAK.out; omega) (by first | omega | (simp; omega)) ?_))
      intro v3 w3 ho3 hb3 _
      have HO3 := Lib.hid (show w3.ownsRow W0.heap.size 3 1 v3 (acc ++ [(x : Int)]).length ((acc ++ [(x : Int)]).map (Value.int .i64)) by rw [show (acc ++ [(x : Int)]).length = k + 1 by rw [List.length_append, HAK.out]; rfl, List.map_append, sW0]; simpa using ho3)
      have hz3 : W0.heap.size ≤ w3.heap.size := Nat.le_trans (by first | omega | (simp; omega)) hb3.size
      obtain ⟨d0', j0', d1', j1', d2', j2'⟩ := k3f (w.heap.size) (.slice ad ln c) (.int .i64 a1) (.int .i64 e1) hb3 (by and_intros <;> go_simp)
      have B3 := Lib.hid (Bc (B := w.heap.size) (a := w) (by (repeat (first | with_reducible exact Below.refl _ _ | with_reducible refine Bs ?_ | with_reducible refine Ba ?_ | with_reducible refine Bd ?_ | with_reducible refine Bn ?_ | with_reducible refine Bt B1.out ?_))) hb3)
      have HK13 := Lib.hid (Eq.trans (hb3.block (w.heap.size + 1) (by omega)) (Eq.trans (Below.heap_alloc _ _ _ (by simp; omega)) (Eq.trans (Below.heap_setCell _ _ _ _ (by first | (simp; done) | (simp; omega))) (Eq.trans (Below.heap_setCell _ _ _ _ (by first | (simp; done) | (simp; omega))) (Eq.trans (Below.heap_setCell _ _ _ _ (by first | (simp; done) | (simp; omega))) HK11.out)))))
      have HK23 := Lib.hid (Eq.trans (hb3.block (w.heap.size + 1 + 1) (by omega)) (Eq.trans (Below.heap_alloc _ _ _ (by simp; omega)) (Eq.trans (Below.heap_setCell _ _ _ _ (by first | (simp; done) | (simp; omega))) (Eq.trans (Below.heap_setCell _ _ _ _ (by first | (simp; done) | (simp; omega))) (Eq.trans (Below.heap_setCell _ _ _ _ (by first | (simp; done) | (simp; omega))) HK21.out)))))
      clear ho3 hb3
      go_wp2
      go_roundw
      case rel => exact ⟨k + 1, acc ++ [(x : Int)], a1, e1, by go_num, by omega, by rw [List.length_append, HAK.out]; rfl, HO3.out, HQN.out, l1, B3.out, hz3, HK13.out, HK23.out, d0', d1', d2', j0', j1', j2'⟩
      case measure => simp [intOf] <;> omega
    · obtain rfl : k = 11 := by omega
      have h0 := HQ.out
      rw [show 11 - 11 = 0 from rfl, rdNs] at h0
      injection h0 with h1 h2
      injection h2 with h2 h3
      have h4 := HQ2.out
      rw [← h1, List.append_nil] at h4
      subst h2 h3
      have hac := h4.trans HCS.out.symm
      have IX := (Ints.own HO.out (by omega)).2
      rw [hac] at IX
      clear h1 h4 hac HQ HQ2 HO HAK
      obtain ⟨lad, lc, rfl, hlc1, hlc2, _, hx⟩ := IX
      obtain ⟨g, o, rfl, hg, e0'⟩ := hx 0 c0 rfl
      obtain ⟨_, _, q1, _, m1⟩ := hx 1 c1 rfl
      injection q1 with q1
      injection q1 with q1 r1
      subst q1 r1
      obtain ⟨_, _, q2, _, m2⟩ := hx 2 c2 rfl
      injection q2 with q2
      injection q2 with q2 r2
      subst q2 r2
      obtain ⟨_, _, q3, _, m3⟩ := hx 3 c3 rfl
      injection q3 with q3
      injection q3 with q3 r3
      subst q3 r3
      obtain ⟨_, _, q4, _, m4⟩ := hx 4 c4 rfl
      injection q4 with q4
      injection q4 with q4 r4
      subst q4 r4
      obtain ⟨_, _, q5, _, m5⟩ := hx 5 c5 rfl
      injection q5 with q5
      injection q5 with q5 r5
      subst q5 r5
      obtain ⟨_, _, q6, _, m6⟩ := hx 6 c6 rfl
      injection q6 with q6
      injection q6 with q6 r6
      subst q6 r6
      obtain ⟨_, _, q7, _, m7⟩ := hx 7 c7 rfl
      injection q7 with q7
      injection q7 with q7 r7
      subst q7 r7
      obtain ⟨_, _, q8, _, m8⟩ := hx 8 c8 rfl
      injection q8 with q8
      injection q8 with q8 r8
      subst q8 r8
      obtain ⟨_, _, q9, _, m9⟩ := hx 9 c9 rfl
      injection q9 with q9
      injection q9 with q9 r9
      subst q9 r9
      obtain ⟨_, _, q10, _, m10⟩ := hx 10 c10 rfl
      injection q10 with q10
      injection q10 with q10 r10
      subst q10 r10
      rw [Nat.add_zero] at e0'
      clear hx
      have HK1s := HK1.out
      have HK2s := HK2.out
      have p1_0 : wr.cell? ⟨w.heap.size + 1, 0, none⟩ = some (.slice none 0 0) := (World.cell?_of_block (w := W0) (w' := wr) (a := ⟨w.heap.size + 1, 0, none⟩) HK1s).trans (by rw [HW0.out]; go_simp)
      have z1_0 : wr.frozen? ⟨w.heap.size + 1, 0, none⟩ = false := (froz_of (w := W0) (w' := wr) HK1s).trans (by rw [HW0.out]; go_simp)
      have p1_1 : wr.cell? ⟨w.heap.size + 1, 1, none⟩ = some (.int .i64 0) := (World.cell?_of_block (w := W0) (w' := wr) (a := ⟨w.heap.size + 1, 1, none⟩) HK1s).trans (by rw [HW0.out]; go_simp)
      have z1_1 : wr.frozen? ⟨w.heap.size + 1, 1, none⟩ = false := (froz_of (w := W0) (w' := wr) HK1s).trans (by rw [HW0.out]; go_simp)
      have p1_2 : wr.cell? ⟨w.heap.size + 1, 2, none⟩ = some (.int .i64 0) := (World.cell?_of_block (w := W0) (w' := wr) (a := ⟨w.heap.size + 1, 2, none⟩) HK1s).trans (by rw [HW0.out]; go_simp)
      have z1_2 : wr.frozen? ⟨w.heap.size + 1, 2, none⟩ = false := (froz_of (w := W0) (w' := wr) HK1s).trans (by rw [HW0.out]; go_simp)
      have p2_0 : wr.cell? ⟨w.heap.size + 1 + 1, 0, none⟩ = some (.int .i64 0) := (World.cell?_of_block (w := W0) (w' := wr) (a := ⟨w.heap.size + 1 + 1, 0, none⟩) HK2s).trans (by rw [HW0.out]; go_simp)
      have z2_0 : wr.frozen? ⟨w.heap.size + 1 + 1, 0, none⟩ = false := (froz_of (w := W0) (w' := wr) HK2s).trans (by rw [HW0.out]; go_simp)
      have p2_1 : wr.cell? ⟨w.heap.size + 1 + 1, 1, none⟩ = some (.int .i64 0) := (World.cell?_of_block (w := W0) (w' := wr) (a := ⟨w.heap.size + 1 + 1, 1, none⟩) HK2s).trans (by rw [HW0.out]; go_simp)
      have z2_1 : wr.frozen? ⟨w.heap.size + 1 + 1, 1, none⟩ = false := (froz_of (w := W0) (w' := wr) HK2s).trans (by rw [HW0.out]; go_simp)
      have p2_2 : wr.cell? ⟨w.heap.size + 1 + 1, 2, none⟩ = some (.int .i64 0) := (World.cell?_of_block (w := W0) (w' := wr) (a := ⟨w.heap.size + 1 + 1, 2, none⟩) HK2s).trans (by rw [HW0.out]; go_simp)
      have z2_2 : wr.frozen? ⟨w.heap.size + 1 + 1, 2, none⟩ = false := (froz_of (w := W0) (w' := wr) HK2s).trans (by rw [HW0.out]; go_simp)
      have p2_3 : wr.cell? ⟨w.heap.size + 1 + 1, 3, none⟩ = some (.int .i64 0) := (World.cell?_of_block (w := W0) (w' := wr) (a := ⟨w.heap.size + 1 + 1, 3, none⟩) HK2s).trans (by rw [HW0.out]; go_simp)
      have z2_3 : wr.frozen? ⟨w.heap.size + 1 + 1, 3, none⟩ = false := (froz_of (w := W0) (w' := wr) HK2s).trans (by rw [HW0.out]; go_simp)
      have p2_4 : wr.cell? ⟨w.heap.size + 1 + 1, 4, none⟩ = some (.int .i64 0) := (World.cell?_of_block (w := W0) (w' := wr) (a := ⟨w.heap.size + 1 + 1, 4, none⟩) HK2s).trans (by rw [HW0.out]; go_simp)
      have z2_4 : wr.frozen? ⟨w.heap.size + 1 + 1, 4, none⟩ = false := (froz_of (w := W0) (w' := wr) HK2s).trans (by rw [HW0.out]; go_simp)
      have p2_5 : wr.cell? ⟨w.heap.size + 1 + 1, 5, none⟩ = some (.int .i64 0) := (World.cell?_of_block (w := W0) (w' := wr) (a := ⟨w.heap.size + 1 + 1, 5, none⟩) HK2s).trans (by rw [HW0.out]; go_simp)
      have z2_5 : wr.frozen? ⟨w.heap.size + 1 + 1, 5, none⟩ = false := (froz_of (w := W0) (w' := wr) HK2s).trans (by rw [HW0.out]; go_simp)
      have p2_6 : wr.cell? ⟨w.heap.size + 1 + 1, 6, none⟩ = some (.int .i64 0) := (World.cell?_of_block (w := W0) (w' := wr) (a := ⟨w.heap.size + 1 + 1, 6, none⟩) HK2s).trans (by rw [HW0.out]; go_simp)
      have z2_6 : wr.frozen? ⟨w.heap.size + 1 + 1, 6, none⟩ = false := (froz_of (w := W0) (w' := wr) HK2s).trans (by rw [HW0.out]; go_simp)
      have p2_7 : wr.cell? ⟨w.heap.size + 1 + 1, 7, none⟩ = some (.int .i64 0) := (World.cell?_of_block (w := W0) (w' := wr) (a := ⟨w.heap.size + 1 + 1, 7, none⟩) HK2s).trans (by rw [HW0.out]; go_simp)
      have z2_7 : wr.frozen? ⟨w.heap.size + 1 + 1, 7, none⟩ = false := (froz_of (w := W0) (w' := wr) HK2s).trans (by rw [HW0.out]; go_simp)
      have p2_8 : wr.cell? ⟨w.heap.size + 1 + 1, 8, none⟩ = some (.int .i64 0) := (World.cell?_of_block (w := W0) (w' := wr) (a := ⟨w.heap.size + 1 + 1, 8, none⟩) HK2s).trans (by rw [HW0.out]; go_simp)
      have z2_8 : wr.frozen? ⟨w.heap.size + 1 + 1, 8, none⟩ = false := (froz_of (w := W0) (w' := wr) HK2s).trans (by rw [HW0.out]; go_simp)
      have p2_9 : wr.cell? ⟨w.heap.size + 1 + 1, 9, none⟩ = some (.int .i64 0) := (World.cell?_of_block (w := W0) (w' := wr) (a := ⟨w.heap.size + 1 + 1, 9, none⟩) HK2s).trans (by rw [HW0.out]; go_simp)
      have z2_9 : wr.frozen? ⟨w.heap.size + 1 + 1, 9, none⟩ = false := (froz_of (w := W0) (w' := wr) HK2s).trans (by rw [HW0.out]; go_simp)
      have p2_10 : wr.cell? ⟨w.heap.size + 1 + 1, 10, none⟩ = some (.int .i64 0) := (World.cell?_of_block (w := W0) (w' := wr) (a := ⟨w.heap.size + 1 + 1, 10, none⟩) HK2s).trans (by rw [HW0.out]; go_simp)
      have z2_10 : wr.frozen? ⟨w.heap.size + 1 + 1, 10, none⟩ = false := (froz_of (w := W0) (w' := wr) HK2s).trans (by rw [HW0.out]; go_simp)
      clear HK1s HK2s HK1 HK2 HW0
      have hwr : w.heap.size + 3 ≤ wr.heap.size := by omega
      have y0 : w.heap.size < wr.heap.size := by omega
      have y1 : w.heap.size + 1 < wr.heap.size := by omega
      have y2 : w.heap.size + 1 + 1 < wr.heap.size := by omega
      have yn0 : w.heap.size ≠ wr.heap.size := by omega
      have ym0 : wr.heap.size ≠ w.heap.size := by omega
      have yn1 : w.heap.size + 1 ≠ wr.heap.size := by omega
      have ym1 : wr.heap.size ≠ w.heap.size + 1 := by omega
      have yn2 : w.heap.size + 1 + 1 ≠ wr.heap.size := by omega
      have ym2 : wr.heap.size ≠ w.heap.size + 1 + 1 := by omega
      go_wp2_with fail
      refine wp_region_held_drew (S := fun w' => w'.cell? ⟨g, o, none⟩ = some (.int .i64 c0) ∧ w'.cell? ⟨g, o + 1, none⟩ = some (.int .i64 c1) ∧ w'.cell? ⟨g, o + 2, none⟩ = some (.int .i64 c2) ∧ w'.cell? ⟨g, o + 3, none⟩ = some (.int .i64 c3) ∧ w'.cell? ⟨g, o + 4, none⟩ = some (.int .i64 c4) ∧ w'.cell? ⟨g, o + 5, none⟩ = some (.int .i64 c5) ∧ w'.cell? ⟨g, o + 6, none⟩ = some (.int .i64 c6) ∧ w'.cell? ⟨g, o + 7, none⟩ = some (.int .i64 c7) ∧ w'.cell? ⟨g, o + 8, none⟩ = some (.int .i64 c8) ∧ w'.cell? ⟨g, o + 9, none⟩ = some (.int .i64 c9) ∧ w'.cell? ⟨g, o + 10, none⟩ = some (.int .i64 c10)) (by kernel_rfl) ?_ (fun hHeld => ?_); (focus ((try dsimp only); first | trivial | (and_intros <;> first | (go_simp; done) | (go_keep; done)))); (refine lexTk 0 (v := ?_) rfl hHeld ?_ (by kernel_rfl) (fun _ _ _ h => h) ?_ ?_; rotate_left 2; (focus rfl); (focus (intro w hSw; (try dsimp only at hSw); first | (go_simp; done) | (go_simp; with_reducible rfl)))); (try simp only [Act.put, List.setIfInBounds_toArray, List.set_cons_zero, List.set_cons_succ]); (refine lexTk 1 (v := ?_) rfl hHeld ?_ (by kernel_rfl) (fun _ _ _ h => h) ?_ ?_; rotate_left 2; (focus rfl); (focus (intro w hSw; (try dsimp only at hSw); first | (go_simp; done) | (go_simp; with_reducible rfl)))); (try simp only [Act.put, List.setIfInBounds_toArray, List.set_cons_zero, List.set_cons_succ]); (refine lexTk 2 (v := ?_) rfl hHeld ?_ (by kernel_rfl) (fun _ _ _ h => h) ?_ ?_; rotate_left 2; (focus rfl); (focus (intro w hSw; (try dsimp only at hSw); first | (go_simp; done) | (go_simp; with_reducible rfl)))); (try simp only [Act.put, List.setIfInBounds_toArray, List.set_cons_zero, List.set_cons_succ]); (refine lexTk 3 (v := ?_) rfl hHeld ?_ (by kernel_rfl) (fun _ _ _ h => h) ?_ ?_; rotate_left 2; (focus rfl); (focus (intro w hSw; (try dsimp only at hSw); first | (go_simp; done) | (go_simp; with_reducible rfl)))); (try simp only [Act.put, List.setIfInBounds_toArray, List.set_cons_zero, List.set_cons_succ]); (refine lexTk 4 (v := ?_) rfl hHeld ?_ (by kernel_rfl) (fun _ _ _ h => h) ?_ ?_; rotate_left 2; (focus rfl); (focus (intro w hSw; (try dsimp only at hSw); first | (go_simp; done) | (go_simp; with_reducible rfl)))); (try simp only [Act.put, List.setIfInBounds_toArray, List.set_cons_zero, List.set_cons_succ]); (refine lexTk 5 (v := ?_) rfl hHeld ?_ (by kernel_rfl) (fun _ _ _ h => h) ?_ ?_; rotate_left 2; (focus rfl); (focus (intro w hSw; (try dsimp only at hSw); first | (go_simp; done) | (go_simp; with_reducible rfl)))); (try simp only [Act.put, List.setIfInBounds_toArray, List.set_cons_zero, List.set_cons_succ]); (refine lexTk 6 (v := ?_) rfl hHeld ?_ (by kernel_rfl) (fun _ _ _ h => h) ?_ ?_; rotate_left 2; (focus rfl); (focus (intro w hSw; (try dsimp only at hSw); first | (go_simp; done) | (go_simp; with_reducible rfl)))); (try simp only [Act.put, List.setIfInBounds_toArray, List.set_cons_zero, List.set_cons_succ]); (refine lexTk 7 (v := ?_) rfl hHeld ?_ (by kernel_rfl) (fun _ _ _ h => h) ?_ ?_; rotate_left 2; (focus rfl); (focus (intro w hSw; (try dsimp only at hSw); first | (go_simp; done) | (go_simp; with_reducible rfl)))); (try simp only [Act.put, List.setIfInBounds_toArray, List.set_cons_zero, List.set_cons_succ]); (refine lexTk 8 (v := ?_) rfl hHeld ?_ (by kernel_rfl) (fun _ _ _ h => h) ?_ ?_; rotate_left 2; (focus rfl); (focus (intro w hSw; (try dsimp only at hSw); first | (go_simp; done) | (go_simp; with_reducible rfl)))); (try simp only [Act.put, List.setIfInBounds_toArray, List.set_cons_zero, List.set_cons_succ]); (refine lexTk 9 (v := ?_) rfl hHeld ?_ (by kernel_rfl) (fun _ _ _ h => h) ?_ ?_; rotate_left 2; (focus rfl); (focus (intro w hSw; (try dsimp only at hSw); first | (go_simp; done) | (go_simp; with_reducible rfl)))); (try simp only [Act.put, List.setIfInBounds_toArray, List.set_cons_zero, List.set_cons_succ]); (refine lexTk 10 (v := ?_) rfl hHeld ?_ (by kernel_rfl) (fun _ _ _ h => h) ?_ ?_; rotate_left 2; (focus rfl); (focus (intro w hSw; (try dsimp only at hSw); first | (go_simp; done) | (go_simp; with_reducible rfl)))); (try simp only [Act.put, List.setIfInBounds_toArray, List.set_cons_zero, List.set_cons_succ]); (refine lexTk 11 (v := ?_) rfl hHeld ?_ (by kernel_rfl) (fun _ _ _ h => h) ?_ ?_; rotate_left 2; (focus rfl); (focus (intro w hSw; (try dsimp only at hSw); first | (go_simp; done) | (go_simp; with_reducible rfl)))); (try simp only [Act.put, List.setIfInBounds_toArray, List.set_cons_zero, List.set_cons_succ]); (refine lexTk 12 (v := ?_) rfl hHeld ?_ (by kernel_rfl) (fun _ _ _ h => h) ?_ ?_; rotate_left 2; (focus rfl); (focus (intro w hSw; (try dsimp only at hSw); first | (go_simp; done) | (go_simp; with_reducible rfl)))); (try simp only [Act.put, List.setIfInBounds_toArray, List.set_cons_zero, List.set_cons_succ]); (refine lexTk 13 (v := ?_) rfl hHeld ?_ (by kernel_rfl) (fun _ _ _ h => h) ?_ ?_; rotate_left 2; (focus rfl); (focus (intro w hSw; (try dsimp only at hSw); first | (go_simp; done) | (go_simp; with_reducible rfl)))); (try simp only [Act.put, List.setIfInBounds_toArray, List.set_cons_zero, List.set_cons_succ]); (refine lexTk 14 (v := ?_) rfl hHeld ?_ (by kernel_rfl) (fun _ _ _ h => h) ?_ ?_; rotate_left 2; (focus rfl); (focus (intro w hSw; (try dsimp only at hSw); first | (go_simp; done) | (go_simp; with_reducible rfl)))); (try simp only [Act.put, List.setIfInBounds_toArray, List.set_cons_zero, List.set_cons_succ]); (refine lexTk 15 (v := ?_) rfl hHeld ?_ (by kernel_rfl) (fun _ _ _ h => h) ?_ ?_; rotate_left 2; (focus rfl); (focus (intro w hSw; (try dsimp only at hSw); first | (go_simp; done) | (go_simp; with_reducible rfl)))); (try simp only [Act.put, List.setIfInBounds_toArray, List.set_cons_zero, List.set_cons_succ]); (refine lexTk 16 (v := ?_) rfl hHeld ?_ (by kernel_rfl) (fun _ _ _ h => h) ?_ ?_; rotate_left 2; (focus rfl); (focus (intro w hSw; (try dsimp only at hSw); first | (go_simp; done) | (go_simp; with_reducible rfl)))); (try simp only [Act.put, List.setIfInBounds_toArray, List.set_cons_zero, List.set_cons_succ]); (refine lexTk 17 (v := ?_) rfl hHeld ?_ (by kernel_rfl) (fun _ _ _ h => h) ?_ ?_; rotate_left 2; (focus rfl); (focus (intro w hSw; (try dsimp only at hSw); first | (go_simp; done) | (go_simp; with_reducible rfl)))); (try simp only [Act.put, List.setIfInBounds_toArray, List.set_cons_zero, List.set_cons_succ]); (refine lexTk 18 (v := ?_) rfl hHeld ?_ (by kernel_rfl) (fun _ _ _ h => h) ?_ ?_; rotate_left 2; (focus rfl); (focus (intro w hSw; (try dsimp only at hSw); first | (go_simp; done) | (go_simp; with_reducible rfl)))); (try simp only [Act.put, List.setIfInBounds_toArray, List.set_cons_zero, List.set_cons_succ]); (refine lexTk 19 (v := ?_) rfl hHeld ?_ (by kernel_rfl) (fun _ _ _ h => h) ?_ ?_; rotate_left 2; (focus rfl); (focus (intro w hSw; (try dsimp only at hSw); first | (go_simp; done) | (go_simp; with_reducible rfl)))); (try simp only [Act.put, List.setIfInBounds_toArray, List.set_cons_zero, List.set_cons_succ]); (refine lexTk 20 (v := ?_) rfl hHeld ?_ (by kernel_rfl) (fun _ _ _ h => h) ?_ ?_; rotate_left 2; (focus rfl); (focus (intro w hSw; (try dsimp only at hSw); first | (go_simp; done) | (go_simp; with_reducible rfl)))); (try simp only [Act.put, List.setIfInBounds_toArray, List.set_cons_zero, List.set_cons_succ]); (refine lexTk 21 (v := ?_) rfl hHeld ?_ (by kernel_rfl) (fun _ _ _ h => h) ?_ ?_; rotate_left 2; (focus rfl); (focus (intro w hSw; (try dsimp only at hSw); first | (go_simp; done) | (go_simp; with_reducible rfl)))); (try simp only [Act.put, List.setIfInBounds_toArray, List.set_cons_zero, List.set_cons_succ]); (refine lexTk 22 (v := ?_) rfl hHeld ?_ (by kernel_rfl) (fun _ _ _ h => h) ?_ ?_; rotate_left 2; (focus rfl); (focus (intro w hSw; (try dsimp only at hSw); first | (go_simp; done) | (go_simp; with_reducible rfl)))); (try simp only [Act.put, List.setIfInBounds_toArray, List.set_cons_zero, List.set_cons_succ]); (refine lexTk 23 (v := ?_) rfl hHeld ?_ (by kernel_rfl) (fun _ _ _ h => h) ?_ ?_; rotate_left 2; (focus rfl); (focus (intro w hSw; (try dsimp only at hSw); first | (go_simp; done) | (go_simp; with_reducible rfl)))); (try simp only [Act.put, List.setIfInBounds_toArray, List.set_cons_zero, List.set_cons_succ]); (refine lexTk 24 (v := ?_) rfl hHeld ?_ (by kernel_rfl) (fun _ _ _ h => h) ?_ ?_; rotate_left 2; (focus rfl); (focus (intro w hSw; (try dsimp only at hSw); first | (go_simp; done) | (go_simp; with_reducible rfl)))); (try simp only [Act.put, List.setIfInBounds_toArray, List.set_cons_zero, List.set_cons_succ]); (refine lexTk 25 (v := ?_) rfl hHeld ?_ (by kernel_rfl) (fun _ _ _ h => h) ?_ ?_; rotate_left 2; (focus rfl); (focus (intro w hSw; (try dsimp only at hSw); first | (go_simp; done) | (go_simp; with_reducible rfl)))); (try simp only [Act.put, List.setIfInBounds_toArray, List.set_cons_zero, List.set_cons_succ]); (refine lexTk 26 (v := ?_) rfl hHeld ?_ (by kernel_rfl) (fun _ _ _ h => h) ?_ ?_; rotate_left 2; (focus rfl); (focus (intro w hSw; (try dsimp only at hSw); first | (go_simp; done) | (go_simp; with_reducible rfl)))); (try simp only [Act.put, List.setIfInBounds_toArray, List.set_cons_zero, List.set_cons_succ]); (refine lexTk 27 (v := ?_) rfl hHeld ?_ (by kernel_rfl) (fun _ _ _ h => h) ?_ ?_; rotate_left 2; (focus rfl); (focus (intro w hSw; (try dsimp only at hSw); first | (go_simp; done) | (go_simp; with_reducible rfl)))); (try simp only [Act.put, List.setIfInBounds_toArray, List.set_cons_zero, List.set_cons_succ]); (refine lexTk 28 (v := ?_) rfl hHeld ?_ (by kernel_rfl) (fun _ _ _ h => h) ?_ ?_; rotate_left 2; (focus rfl); (focus (intro w hSw; (try dsimp only at hSw); first | (go_simp; done) | (go_simp; with_reducible rfl)))); (try simp only [Act.put, List.setIfInBounds_toArray, List.set_cons_zero, List.set_cons_succ]); (refine lexTk 29 (v := ?_) rfl hHeld ?_ (by kernel_rfl) (fun _ _ _ h => h) ?_ ?_; rotate_left 2; (focus rfl); (focus (intro w hSw; (try dsimp only at hSw); first | (go_simp; done) | (go_simp; with_reducible rfl)))); (try simp only [Act.put, List.setIfInBounds_toArray, List.set_cons_zero, List.set_cons_succ]); (refine lexTk 30 (v := ?_) rfl hHeld ?_ (by kernel_rfl) (fun _ _ _ h => h) ?_ ?_; rotate_left 2; (focus rfl); (focus (intro w hSw; (try dsimp only at hSw); first | (go_simp; done) | (go_simp; with_reducible rfl)))); (try simp only [Act.put, List.setIfInBounds_toArray, List.set_cons_zero, List.set_cons_succ]); (refine lexTk 31 (v := ?_) rfl hHeld ?_ (by kernel_rfl) (fun _ _ _ h => h) ?_ ?_; rotate_left 2; (focus rfl); (focus (intro w hSw; (try dsimp only at hSw); first | (go_simp; done) | (go_simp; with_reducible rfl)))); (try simp only [Act.put, List.setIfInBounds_toArray, List.set_cons_zero, List.set_cons_succ]); (refine lexTk 32 (v := ?_) rfl hHeld ?_ (by kernel_rfl) (fun _ _ _ h => h) ?_ ?_; rotate_left 2; (focus rfl); (focus (intro w hSw; (try dsimp only at hSw); first | (go_simp; done) | (go_simp; with_reducible rfl)))); (try simp only [Act.put, List.setIfInBounds_toArray, List.set_cons_zero, List.set_cons_succ]); (refine lexTk 33 (v := ?_) rfl hHeld ?_ (by kernel_rfl) (fun _ _ _ h => h) ?_ ?_; rotate_left 2; (focus rfl); (focus (intro w hSw; (try dsimp only at hSw); first | (go_simp; done) | (go_simp; with_reducible rfl)))); (try simp only [Act.put, List.setIfInBounds_toArray, List.set_cons_zero, List.set_cons_succ]); refine lexHv 34 rfl ?_ (by kernel_rfl); (intro K hK); (go_simp); refine hK.out _ _ ?_ ?_; (focus ((try dsimp only); first | trivial | (and_intros <;> first | (go_simp; done) | (go_keep; done)))); (clear hHeld hK K); (intro hHeld); (try simp only [Act.put, List.setIfInBounds_toArray, List.set_cons_zero, List.set_cons_succ]); refine lexHv 35 rfl ?_ (by kernel_rfl); (intro K hK); (go_simp); refine hK.out _ _ ?_ ?_; (focus ((try dsimp only); first | trivial | (and_intros <;> first | (go_simp; done) | (go_keep; done)))); (clear hHeld hK K); (intro hHeld); (try simp only [Act.put, List.setIfInBounds_toArray, List.set_cons_zero, List.set_cons_succ]); refine wpAnyH_done (by kernel_rfl) ?_ _
      go_wp2_with fail
      have B18 := HBR
      by_cases hE : E = 0
      · subst hE
        go_region_with (first | (go_at_call 111; (with_reducible refine (HRI.out _).mono ?_); rintro e w19 ⟨rfl, b19⟩; have s19 : wr.heap.size + 1 ≤ w19.heap.size := sz b19; have B19 := Lib.hid (Bc (B := w.heap.size) (a := w) (by (repeat (first | with_reducible exact Below.refl _ _ | with_reducible refine Bs ?_ | with_reducible refine Ba ?_ | with_reducible refine Bd ?_ | with_reducible refine Bn ?_ | with_reducible refine Bt B18.out ?_))) b19); obtain ⟨c19_0, f19_0, c19_1, f19_1, c19_2, f19_2⟩ := k3f (w.heap.size) (.slice ad ln c) (.int .i64 ak) (.int .i64 ek) b19 (by and_intros <;> go_simp); obtain ⟨c19_3, f19_3, c19_4, f19_4, c19_5, f19_5⟩ := k3f (w.heap.size + 1) (.slice none 0 0) (.int .i64 0) (.int .i64 0) b19 (by and_intros <;> go_simp); obtain ⟨c19_6, f19_6, c19_7, f19_7, c19_8, f19_8, c19_9, f19_9, c19_10, f19_10, c19_11, f19_11, c19_12, f19_12, c19_13, f19_13, c19_14, f19_14, c19_15, f19_15, c19_16, f19_16⟩ := k11f (w.heap.size + 1 + 1) (.int .i64 0) (.int .i64 0) (.int .i64 0) (.int .i64 0) (.int .i64 0) (.int .i64 0) (.int .i64 0) (.int .i64 0) (.int .i64 0) (.int .i64 0) (.int .i64 0) b19 (by and_intros <;> go_simp); obtain ⟨c19_17, f19_17, c19_18, f19_18, c19_19, f19_19, c19_20, f19_20, c19_21, f19_21, c19_22, f19_22, c19_23, f19_23, c19_24, f19_24, c19_25, f19_25, c19_26, f19_26, c19_27, f19_27⟩ := k11f (wr.heap.size) (.int .i64 c0) (.int .i64 c1) (.int .i64 c2) (.int .i64 c3) (.int .i64 c4) (.int .i64 c5) (.int .i64 c6) (.int .i64 c7) (.int .i64 c8) (.int .i64 c9) (.int .i64 c10) b19 (by and_intros <;> go_simp); obtain ⟨l19_0, n19_0, m19_0⟩ := lnm (show w.heap.size < w19.heap.size by omega); obtain ⟨l19_1, n19_1, m19_1⟩ := lnm (show w.heap.size + 1 < w19.heap.size by omega); obtain ⟨l19_2, n19_2, m19_2⟩ := lnm (show w.heap.size + 1 + 1 < w19.heap.size by omega); obtain ⟨l19_3, n19_3, m19_3⟩ := lnm (show wr.heap.size < w19.heap.size by omega); clear b19) | (go_at_call 99; (with_reducible refine (HF.out _).mono ?_); rintro e w20 ⟨rfl, b20⟩; have s20 : w19.heap.size ≤ w20.heap.size := sz b20; have B20 := Lib.hid (Bc (B := w.heap.size) (a := w) (by (repeat (first | with_reducible exact Below.refl _ _ | with_reducible refine Bs ?_ | with_reducible refine Ba ?_ | with_reducible refine Bd ?_ | with_reducible refine Bn ?_ | with_reducible refine Bt B19.out ?_))) b20); obtain ⟨c20_0, f20_0, c20_1, f20_1, c20_2, f20_2⟩ := k3f (w.heap.size) (.slice ad ln c) (.int .i64 ak) (.int .i64 ek) b20 (by and_intros <;> go_simp); obtain ⟨c20_3, f20_3, c20_4, f20_4, c20_5, f20_5⟩ := k3f (w.heap.size + 1) (.slice none 0 0) (.int .i64 0) (.int .i64 0) b20 (by and_intros <;> go_simp); obtain ⟨c20_6, f20_6, c20_7, f20_7, c20_8, f20_8, c20_9, f20_9, c20_10, f20_10, c20_11, f20_11, c20_12, f20_12, c20_13, f20_13, c20_14, f20_14, c20_15, f20_15, c20_16, f20_16⟩ := k11f (w.heap.size + 1 + 1) (.int .i64 0) (.int .i64 0) (.int .i64 0) (.int .i64 0) (.int .i64 0) (.int .i64 0) (.int .i64 0) (.int .i64 0) (.int .i64 0) (.int .i64 0) (.int .i64 0) b20 (by and_intros <;> go_simp); obtain ⟨c20_17, f20_17, c20_18, f20_18, c20_19, f20_19, c20_20, f20_20, c20_21, f20_21, c20_22, f20_22, c20_23, f20_23, c20_24, f20_24, c20_25, f20_25, c20_26, f20_26, c20_27, f20_27⟩ := k11f (wr.heap.size) (.int .i64 c0) (.int .i64 c1) (.int .i64 c2) (.int .i64 c3) (.int .i64 c4) (.int .i64 c5) (.int .i64 c6) (.int .i64 c7) (.int .i64 c8) (.int .i64 c9) (.int .i64 c10) b20 (by and_intros <;> go_simp); obtain ⟨l20_0, n20_0, m20_0⟩ := lnm (show w.heap.size < w20.heap.size by omega); obtain ⟨l20_1, n20_1, m20_1⟩ := lnm (show w.heap.size + 1 < w20.heap.size by omega); obtain ⟨l20_2, n20_2, m20_2⟩ := lnm (show w.heap.size + 1 + 1 < w20.heap.size by omega); obtain ⟨l20_3, n20_3, m20_3⟩ := lnm (show wr.heap.size < w20.heap.size by omega); clear b20))
        all_goals
          go_wp2_with fail
          go_region
          all_goals
            go_wp2_with fail
            exact bodyPost_ret (v := .tuple #[.agg #[.slice ad ln c, .int .i64 ak, .int .i64 0], .agg #[.int .i64 c0, .int .i64 c1, .int .i64 c2, .int .i64 c3, .int .i64 c4, .int .i64 c5, .int .i64 c6, .int .i64 c7, .int .i64 c8, .int .i64 c9, .int .i64 c10]]) (by simp [results, Try.results45, go_sem, *]) rfl ⟨_, rfl, rfl, by (repeat (first | with_reducible exact Below.refl _ _ | with_reducible refine Bs ?_ | with_reducible refine Ba ?_ | with_reducible refine Bd ?_ | with_reducible refine Bn ?_ | with_reducible refine Bt B20.out ?_))⟩
      · go_region_with (first | (go_at_call 111; (with_reducible refine (HRI.out _).mono ?_); rintro e w19 ⟨rfl, b19⟩; have s19 : wr.heap.size + 1 ≤ w19.heap.size := sz b19; have B19 := Lib.hid (Bc (B := w.heap.size) (a := w) (by (repeat (first | with_reducible exact Below.refl _ _ | with_reducible refine Bs ?_ | with_reducible refine Ba ?_ | with_reducible refine Bd ?_ | with_reducible refine Bn ?_ | with_reducible refine Bt B18.out ?_))) b19); obtain ⟨c19_0, f19_0, c19_1, f19_1, c19_2, f19_2⟩ := k3f (w.heap.size) (.slice ad ln c) (.int .i64 ak) (.int .i64 ek) b19 (by and_intros <;> go_simp); obtain ⟨c19_3, f19_3, c19_4, f19_4, c19_5, f19_5⟩ := k3f (w.heap.size + 1) (.slice none 0 0) (.int .i64 0) (.int .i64 0) b19 (by and_intros <;> go_simp); obtain ⟨c19_6, f19_6, c19_7, f19_7, c19_8, f19_8, c19_9, f19_9, c19_10, f19_10, c19_11, f19_11, c19_12, f19_12, c19_13, f19_13, c19_14, f19_14, c19_15, f19_15, c19_16, f19_16⟩ := k11f (w.heap.size + 1 + 1) (.int .i64 0) (.int .i64 0) (.int .i64 0) (.int .i64 0) (.int .i64 0) (.int .i64 0) (.int .i64 0) (.int .i64 0) (.int .i64 0) (.int .i64 0) (.int .i64 0) b19 (by and_intros <;> go_simp); obtain ⟨c19_17, f19_17, c19_18, f19_18, c19_19, f19_19, c19_20, f19_20, c19_21, f19_21, c19_22, f19_22, c19_23, f19_23, c19_24, f19_24, c19_25, f19_25, c19_26, f19_26, c19_27, f19_27⟩ := k11f (wr.heap.size) (.int .i64 c0) (.int .i64 c1) (.int .i64 c2) (.int .i64 c3) (.int .i64 c4) (.int .i64 c5) (.int .i64 c6) (.int .i64 c7) (.int .i64 c8) (.int .i64 c9) (.int .i64 c10) b19 (by and_intros <;> go_simp); obtain ⟨l19_0, n19_0, m19_0⟩ := lnm (show w.heap.size < w19.heap.size by omega); obtain ⟨l19_1, n19_1, m19_1⟩ := lnm (show w.heap.size + 1 < w19.heap.size by omega); obtain ⟨l19_2, n19_2, m19_2⟩ := lnm (show w.heap.size + 1 + 1 < w19.heap.size by omega); obtain ⟨l19_3, n19_3, m19_3⟩ := lnm (show wr.heap.size < w19.heap.size by omega); clear b19) | (go_at_call 99; (with_reducible refine (HF.out _).mono ?_); rintro e w20 ⟨rfl, b20⟩; have s20 : w19.heap.size ≤ w20.heap.size := sz b20; have B20 := Lib.hid (Bc (B := w.heap.size) (a := w) (by (repeat (first | with_reducible exact Below.refl _ _ | with_reducible refine Bs ?_ | with_reducible refine Ba ?_ | with_reducible refine Bd ?_ | with_reducible refine Bn ?_ | with_reducible refine Bt B19.out ?_))) b20); obtain ⟨c20_0, f20_0, c20_1, f20_1, c20_2, f20_2⟩ := k3f (w.heap.size) (.slice ad ln c) (.int .i64 ak) (.int .i64 ek) b20 (by and_intros <;> go_simp); obtain ⟨c20_3, f20_3, c20_4, f20_4, c20_5, f20_5⟩ := k3f (w.heap.size + 1) (.slice none 0 0) (.int .i64 0) (.int .i64 0) b20 (by and_intros <;> go_simp); obtain ⟨c20_6, f20_6, c20_7, f20_7, c20_8, f20_8, c20_9, f20_9, c20_10, f20_10, c20_11, f20_11, c20_12, f20_12, c20_13, f20_13, c20_14, f20_14, c20_15, f20_15, c20_16, f20_16⟩ := k11f (w.heap.size + 1 + 1) (.int .i64 0) (.int .i64 0) (.int .i64 0) (.int .i64 0) (.int .i64 0) (.int .i64 0) (.int .i64 0) (.int .i64 0) (.int .i64 0) (.int .i64 0) (.int .i64 0) b20 (by and_intros <;> go_simp); obtain ⟨c20_17, f20_17, c20_18, f20_18, c20_19, f20_19, c20_20, f20_20, c20_21, f20_21, c20_22, f20_22, c20_23, f20_23, c20_24, f20_24, c20_25, f20_25, c20_26, f20_26, c20_27, f20_27⟩ := k11f (wr.heap.size) (.int .i64 c0) (.int .i64 c1) (.int .i64 c2) (.int .i64 c3) (.int .i64 c4) (.int .i64 c5) (.int .i64 c6) (.int .i64 c7) (.int .i64 c8) (.int .i64 c9) (.int .i64 c10) b20 (by and_intros <;> go_simp); obtain ⟨l20_0, n20_0, m20_0⟩ := lnm (show w.heap.size < w20.heap.size by omega); obtain ⟨l20_1, n20_1, m20_1⟩ := lnm (show w.heap.size + 1 < w20.heap.size by omega); obtain ⟨l20_2, n20_2, m20_2⟩ := lnm (show w.heap.size + 1 + 1 < w20.heap.size by omega); obtain ⟨l20_3, n20_3, m20_3⟩ := lnm (show wr.heap.size < w20.heap.size by omega); clear b20))
        all_goals
          go_wp2_with fail
          exact bodyPost_ret (v := .tuple #[.agg #[.slice ad ln c, .int .i64 ak, .int .i64 E], .agg #[.int .i64 0, .int .i64 0, .int .i64 0, .int .i64 0, .int .i64 0, .int .i64 0, .int .i64 0, .int .i64 0, .int .i64 0, .int .i64 0, .int .i64 0]]) (by simp [results, Try.results45, go_sem, *]) rfl ⟨_, rfl, fun h => absurd h hE, fun _ => rfl, by (repeat (first | with_reducible exact Below.refl _ _ | with_reducible refine Bs ?_ | with_reducible refine Ba ?_ | with_reducible refine Bd ?_ | with_reducible refine Bn ?_ | with_reducible refine Bt B20.out ?_))⟩
end Go.Proofs.Ytjmjnkilgoelbaa
