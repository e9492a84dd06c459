/-
  StateV: What is read of what was put: ways to work, events, forests, alerts; walk of item.GetAlert.
-/
import Derived.Test.YtgobbecpnjelmaaGreatJ4a
import Derived.Test.YtgobbecpnjelmaaGreatKItemX
import Derived.Test.YtgobbecpnjelmaaGreatKItemT
import Derived.Test.YtgobbecpnjelmaaGreatKWoodK
namespace Go.Proofs.YtgobbecpnjelmaaGreat
open Go.RowKit

/-- From a place on such bytes come. -/
def Rest (l : List Int) (a : Nat) (x : List Int) : Prop := ∃ pre, l = pre ++ x ∧ pre.length = a

theorem Rest.all (l : List Int) : Rest l 0 l := ⟨[], rfl, rfl⟩

theorem Rest.le {l : List Int} {a : Nat} {x : List Int} (h : Rest l a x) : a ≤ l.length := by
 obtain ⟨pre, e, e2⟩ := h
 rw [e, List.length_append]
 omega

theorem Rest.next {l : List Int} {a : Nat} {x y : List Int} (h : Rest l a (x ++ y)) : Rest l (a + x.length) y := by
 obtain ⟨pre, e, e2⟩ := h
 exact ⟨pre ++ x, by rw [e, List.append_assoc], by rw [List.length_append, e2]⟩

theorem Rest.end {l : List Int} {a : Nat} (h : Rest l a []) : a = l.length := by
 obtain ⟨pre, e, e2⟩ := h
 rw [e, List.append_nil, e2]

theorem Rest.n {l : List Int} {a : Nat} {y : List Int} (n : Nat) (most : Int) (hn : n < 18446744073709551616) (hm : (n : Int) ≤ most) (h : Rest l a (putsU ((n : Int)).toNat ++ y)) : rdN' l a 0 most = (n, a + (putsU n).length, 0) ∧ Rest l (a + (putsU n).length) y := by
 rw [Int.toNat_natCast] at h
 refine ⟨?_, h.next⟩
 obtain ⟨pre, e, e2⟩ := h
 rw [e, ← e2]
 unfold rdN'
 rw [if_pos rfl]
 exact rdN_puts pre y n hn most hm

theorem Rest.xs {l : List Int} {a : Nat} {c y : List Int} (h : Rest l a (putsIs c ++ y)) (h64 : ∀ x ∈ c, Ok64 x) : rdXs l c.length a 0 = (c, a + (putsIs c).length, 0) := by
 obtain ⟨pre, e, e2⟩ := h
 rw [e, ← e2]
 exact rdXs_puts pre c y h64

theorem Rest.score {l : List Int} {a : Nat} {p q : Int} {y : List Int} (h : Rest l a (scoreBytes (p, q) ++ y)) (hs : scoreB (p, q) = true) :
  gS l a 0 = ((p, q), a + (scoreBytes (p, q)).length, 0) ∧ getSE l a 0 = 0 ∧ getSV l a 0 = (p, q) := by
 obtain ⟨⟨h1, h2⟩, ⟨h3, h4⟩, _⟩ := scoreB_is.1 hs
 dsimp only at h1 h2 h3 h4
 obtain ⟨P, rfl⟩ : ∃ P : Nat, p = (P : Int) := ⟨p.toNat, by omega⟩
 obtain ⟨Q, rfl⟩ : ∃ Q : Nat, q = (Q : Int) := ⟨q.toNat, by omega⟩
 have e0 : scoreBytes ((P : Int), (Q : Int)) = putsU ((P : Int)).toNat ++ putsU ((Q : Int)).toNat := scoreBytes_two hs
 rw [e0, List.append_assoc] at h
 obtain ⟨g1, k1⟩ := h.n P 274877906944 (by omega) (by omega)
 obtain ⟨g2, k2⟩ := k1.n Q 1099511627776 (by omega) (by omega)
 have e1 : gS l a 0 = (((P : Int), (Q : Int)), a + (scoreBytes ((P : Int), (Q : Int))).length, 0) := by
  unfold gS
  rw [g1]
  dsimp only
  rw [g2, e0, List.length_append, Int.toNat_natCast, Int.toNat_natCast, Nat.add_assoc]
 have e2 : getSE l a 0 = 0 := by
  unfold getSE
  rw [e1]
  unfold finE
  rw [if_pos rfl, if_pos hs]
 refine ⟨e1, e2, ?_⟩
 unfold getSV
 rw [if_pos e2, e1]

theorem Rest.seen {l : List Int} {a : Nat} {t : SeenT} {dim : Int} {y : List Int} (h : Rest l a (seenTW t dim ++ y)) (ht : seenTB t dim = true) : getSeen l dim a 0 = (t, a + (seenTW t dim).length, 0) := by
 obtain ⟨id, x, P, Q, s⟩ := t
 obtain ⟨h1, h2, h3⟩ := seenTB_is ht
 obtain ⟨v1, v2, v3⟩ := vecB_iff h2
 dsimp only at h1 h2 h3 v2 v3
 subst v2
 obtain ⟨I, rfl⟩ : ∃ I : Nat, id = (I : Int) := ⟨id.toNat, by omega⟩
 have ew := seenTW_is ht
 dsimp only at ew
 rw [ew, List.append_assoc, List.append_assoc] at h
 obtain ⟨g1, k1⟩ := h.n I 1099511627776 (by omega) (by omega)
 have g2 := k1.xs v3
 have k2 := k1.next
 cases s with
 | false =>
  rw [if_neg (by simp)] at h3 k2 ew
  obtain ⟨rfl, rfl⟩ := h3
  obtain ⟨g3, k3⟩ := k2.n 0 1 (by omega) (by omega)
  have hg := gSn_of (n := x.length) g1 g2 g3 (show gSc l 0 _ 0 = _ from if_neg (by decide))
  rw [getSeen_of (n := x.length) (by omega) hg (E := 0) (by show (0 : Int) = finE 0 (seenTB ((I : Int), x, 0, 0, false) (x.length : Int)); rw [ht]; rfl), if_pos rfl, ew]
  simp only [List.length_append, Nat.add_assoc, Int.toNat_natCast]
 | true =>
  rw [if_pos rfl] at h3 k2 ew
  rw [List.append_assoc] at k2
  obtain ⟨g3, k3⟩ := k2.n 1 1 (by omega) (by omega)
  obtain ⟨e1, e2, e3⟩ := k3.score h3
  have hg := gSn_of (n := x.length) g1 g2 g3 (show gSc l 1 _ 0 = _ from if_pos rfl)
  dsimp only at hg
  rw [e1, e2, e3] at hg
  rw [getSeen_of (n := x.length) (by omega) hg (E := 0) (by show (0 : Int) = finE 0 (seenTB ((I : Int), x, P, Q, true) (x.length : Int)); rw [ht]; rfl), if_pos rfl, ew]
  simp only [List.length_append, Nat.add_assoc, Int.toNat_natCast]

theorem Rest.forest {l : List Int} {a : Nat} {f : List (TreeP × Int)} {y : List Int} (h : Rest l a (forestBy f ++ y)) (hf : isF f = true) : gFw l a 0 = (f, a + (forestBy f).length, 0) := by
 obtain ⟨pre, e, e2⟩ := h
 rw [e, ← e2]
 exact gF_puts hf pre y

theorem getSeen_put {w : World} {R : Nat} {v : Value} {l : List Int} {a : Nat} {t : SeenT} {dim : Int} {y : List Int} (h : Rd w R v l a 0) (hb : AllB l) (hl : l.length ≤ 100000) (hr : Rest l a (seenTW t dim ++ y)) (ht : seenTB t dim = true) :
  Calls Tryz.prog 63 #[.pointer (some ⟨R, 0, none⟩), .int .i64 dim] w fun e w' => ∃ vx, e = .returned (.agg #[.int .i64 t.1, vx, .int .i64 t.2.2.1, .int .i64 t.2.2.2.1, .bool t.2.2.2.2]) ∧ Ints .i64 w' vx t.2.1 ∧ Fresh w.heap.size vx ∧ RdTo w R v l w' (a + (seenTW t dim).length) 0 := by
 have := getSeen_any h hb hr.le hl dim
 rw [hr.seen ht] at this
 exact this.mono fun e w' ⟨vx, h1, h2, h3, h4⟩ => ⟨vx, h1, h2, h4, h3⟩

theorem getForest_put {w : World} {R : Nat} {v : Value} {l : List Int} {a : Nat} {f : List (TreeP × Int)} {y : List Int} (h : Rd w R v l a 0) (hb : AllB l) (hl : l.length ≤ 100000) (hr : Rest l a (forestBy f ++ y)) (hf : isF f = true) :
  Calls Tryz.prog 64 #[.pointer (some ⟨R, 0, none⟩)] w fun e w' => ∃ fv, e = .returned fv ∧ RdTo w R v l w' (a + (forestBy f).length) 0 ∧ GrownsF w.heap.size w' fv f := by
 have := getForest_any h hb hr.le hl
 rw [hr.forest hf] at this
 exact this

theorem getScore_put {w : World} {R : Nat} {v : Value} {l : List Int} {a : Nat} {p q : Int} {y : List Int} (h : Rd w R v l a 0) (hb : AllB l) (hl : l.length ≤ 100000) (hr : Rest l a (scoreBytes (p, q) ++ y)) (hs : scoreB (p, q) = true) :
  Calls Tryz.prog 105 #[.pointer (some ⟨R, 0, none⟩)] w fun e w' => e = .returned (.agg #[.int .i64 p, .int .i64 q]) ∧ RdTo w R v l w' (a + (scoreBytes (p, q)).length) 0 := by
 have := getScore_any h hb hr.le hl
 obtain ⟨e1, e2, e3⟩ := hr.score hs
 rw [e1, e2, e3] at this
 exact this

set_option maxRecDepth 100000 in
set_option maxHeartbeats 4000000 in
theorem getConf_put {w : World} {R : Nat} {v : Value} {l : List Int} {a : Nat} {y : List Int} (c0 c1 c2 c3 c4 c5 c6 c7 c8 c9 c10 : Int) (hc : confB11 c0 c1 c2 c3 c4 c5 c6 c7 c8 c9 c10 = true) (h : Rd w R v l a 0) (hb : AllB l) (hl : l.length ≤ 100000) (hr : Rest l a (natsB [c0, c1, c2, c3, c4, c5, c6, c7, c8, c9, c10] ++ y)) :
  Calls Tryz.prog 60 #[.pointer (some ⟨R, 0, none⟩)] w fun e w' => e = .returned (.agg #[.int .i64 c0, .int .i64 c1, .int .i64 c2, .int .i64 c3, .int .i64 c4, .int .i64 c5, .int .i64 c6, .int .i64 c7, .int .i64 c8, .int .i64 c9, .int .i64 c10]) ∧ RdTo w R v l w' (a + (natsB [c0, c1, c2, c3, c4, c5, c6, c7, c8, c9, c10]).length) 0 := by
 have hp := confB11_pos c0 c1 c2 c3 c4 c5 c6 c7 c8 c9 c10 hc
 have ha := hr.le
 simp only [natsB_cons, List.append_assoc] at hr
 obtain ⟨n0, rfl⟩ : ∃ n : Nat, c0 = (n : Int) := ⟨c0.toNat, by have := hp c0 (by simp); omega⟩
 obtain ⟨n1, rfl⟩ : ∃ n : Nat, c1 = (n : Int) := ⟨c1.toNat, by have := hp c1 (by simp); omega⟩
 obtain ⟨n2, rfl⟩ : ∃ n : Nat, c2 = (n : Int) := ⟨c2.toNat, by have := hp c2 (by simp); omega⟩
 obtain ⟨n3, rfl⟩ : ∃ n : Nat, c3 = (n : Int) := ⟨c3.toNat, by have := hp c3 (by simp); omega⟩
 obtain ⟨n4, rfl⟩ : ∃ n : Nat, c4 = (n : Int) := ⟨c4.toNat, by have := hp c4 (by simp); omega⟩
 obtain ⟨n5, rfl⟩ : ∃ n : Nat, c5 = (n : Int) := ⟨c5.toNat, by have := hp c5 (by simp); omega⟩
 obtain ⟨n6, rfl⟩ : ∃ n : Nat, c6 = (n : Int) := ⟨c6.toNat, by have := hp c6 (by simp); omega⟩
 obtain ⟨n7, rfl⟩ : ∃ n : Nat, c7 = (n : Int) := ⟨c7.toNat, by have := hp c7 (by simp); omega⟩
 obtain ⟨n8, rfl⟩ : ∃ n : Nat, c8 = (n : Int) := ⟨c8.toNat, by have := hp c8 (by simp); omega⟩
 obtain ⟨n9, rfl⟩ : ∃ n : Nat, c9 = (n : Int) := ⟨c9.toNat, by have := hp c9 (by simp); omega⟩
 obtain ⟨n10, rfl⟩ : ∃ n : Nat, c10 = (n : Int) := ⟨c10.toNat, by have := hp c10 (by simp); omega⟩
 obtain ⟨g0, h0⟩ := hr.n n0 1099511627776 (by have := hp n0 (by simp); omega) (by have := hp n0 (by simp); omega)
 obtain ⟨g1, h1⟩ := h0.n n1 1099511627776 (by have := hp n1 (by simp); omega) (by have := hp n1 (by simp); omega)
 obtain ⟨g2, h2⟩ := h1.n n2 1099511627776 (by have := hp n2 (by simp); omega) (by have := hp n2 (by simp); omega)
 obtain ⟨g3, h3⟩ := h2.n n3 1099511627776 (by have := hp n3 (by simp); omega) (by have := hp n3 (by simp); omega)
 obtain ⟨g4, h4⟩ := h3.n n4 1099511627776 (by have := hp n4 (by simp); omega) (by have := hp n4 (by simp); omega)
 obtain ⟨g5, h5⟩ := h4.n n5 1099511627776 (by have := hp n5 (by simp); omega) (by have := hp n5 (by simp); omega)
 obtain ⟨g6, h6⟩ := h5.n n6 1099511627776 (by have := hp n6 (by simp); omega) (by have := hp n6 (by simp); omega)
 obtain ⟨g7, h7⟩ := h6.n n7 1099511627776 (by have := hp n7 (by simp); omega) (by have := hp n7 (by simp); omega)
 obtain ⟨g8, h8⟩ := h7.n n8 1099511627776 (by have := hp n8 (by simp); omega) (by have := hp n8 (by simp); omega)
 obtain ⟨g9, h9⟩ := h8.n n9 1099511627776 (by have := hp n9 (by simp); omega) (by have := hp n9 (by simp); omega)
 obtain ⟨g10, h10⟩ := h9.n n10 1099511627776 (by have := hp n10 (by simp); omega) (by have := hp n10 (by simp); omega)
 refine (getConf_any h hb ha hl _ _ _ _ _ _ _ _ _ _ _ _ _ _ _ _ _ _ _ _ _ _ _ _ _ _ _ _ _ _ _ _ _ g0 g1 g2 g3 g4 g5 g6 g7 g8 g9 g10 0 (by rw [hc]; rfl)).mono ?_
 rintro e w' ⟨val, rfl, e1, _, r⟩
 refine ⟨by rw [e1 rfl], ?_⟩
 have e2 : a + (natsB [(n0 : Int), (n1 : Int), (n2 : Int), (n3 : Int), (n4 : Int), (n5 : Int), (n6 : Int), (n7 : Int), (n8 : Int), (n9 : Int), (n10 : Int)]).length = a + (putsU n0).length + (putsU n1).length + (putsU n2).length + (putsU n3).length + (putsU n4).length + (putsU n5).length + (putsU n6).length + (putsU n7).length + (putsU n8).length + (putsU n9).length + (putsU n10).length := by simp only [natsB, List.flatMap_cons, List.flatMap_nil, List.length_append, List.length_nil, Int.toNat_natCast]; omega
 rw [e2]
 exact r

set_option maxRecDepth 100000 in
set_option maxHeartbeats 4000000 in
theorem checkedL_ok {w : World} {R : Nat} {v : Value} {l : List Int} {a : Nat} (h : Rd w R v l a 0) (q i p1 q1 p2 q2 : Int) (hB : alertB (q, i, (p1, q1), (p2, q2)) = true) :
  Calls Tryz.prog 109 #[.pointer (some ⟨R, 0, none⟩), .agg #[.int .i64 q, .int .i64 i, .int .i64 p1, .int .i64 q1, .int .i64 p2, .int .i64 q2], .func (.func 77) #[] #[]] w fun e w' => e = .returned (.agg #[.int .i64 q, .int .i64 i, .int .i64 p1, .int .i64 q1, .int .i64 p2, .int .i64 q2]) ∧ RdTo w R v l w' a 0 := by
 have H := hH h
 have hR := h.lt
 have HR := hH (fun W => hB ▸ rightAlert_any q i p1 q1 p2 q2 W)
 clear h hB
 go_enter Tryz.func109, Tryz.ntmps109
 go_wp2_with fail
 refine (err_any (H.out.below bw)).mono ?_
 rintro e w1 ⟨rfl, rfl⟩
 go_wp2_with fail
 (with_reducible refine (HR.out _).mono ?_); rintro e w1 ⟨rfl, b1⟩; have s1 : w.heap.size + 1 + 1 + 1 ≤ w1.heap.size := sz b1; have B1 := hJ w b1; obtain ⟨c1_0, c1_1, c1_2, c1_3, c1_4, c1_5⟩ := k6 (w.heap.size) (.int .i64 q) (.int .i64 i) (.int .i64 p1) (.int .i64 q1) (.int .i64 p2) (.int .i64 q2) b1 aJ; obtain ⟨c1_6, f1_6, c1_7, f1_7, c1_8, f1_8, c1_9, f1_9, c1_10, f1_10, c1_11, f1_11⟩ := k6f (w.heap.size + 1) (.int .i64 0) (.int .i64 0) (.int .i64 0) (.int .i64 0) (.int .i64 0) (.int .i64 0) b1 aJ; obtain ⟨l1_0, n1_0, m1_0⟩ := lnm (show w.heap.size < w1.heap.size by omega); obtain ⟨l1_1, n1_1, m1_1⟩ := lnm (show w.heap.size + 1 < w1.heap.size by omega); clear b1
 go_wp2_with fail
 refine (err_any (H.out.below (show Below w.heap.size w _ from bx B1.out))).mono ?_
 rintro e w2 ⟨rfl, rfl⟩
 go_wp2_with fail
 exact bodyPost_ret (v := .agg #[.int .i64 q, .int .i64 i, .int .i64 p1, .int .i64 q1, .int .i64 p2, .int .i64 q2]) (by simp [results, Tryz.results109, go_sem, *]) rfl ⟨rfl, RdTo.belowB H.out (RdTo.refl H.out) (bx B1.out)⟩

set_option maxRecDepth 100000 in
set_option maxHeartbeats 8000000 in
theorem getAlert_put {w : World} {R : Nat} {v : Value} {l : List Int} {a : Nat} {y : List Int} (q i p1 q1 p2 q2 : Int) (h : Rd w R v l a 0) (hb : AllB l) (hl : l.length ≤ 100000) (hr : Rest l a (alertBytes (q, i, (p1, q1), (p2, q2)) ++ y)) (hB : alertB (q, i, (p1, q1), (p2, q2)) = true) :
  Calls Tryz.prog 65 #[.pointer (some ⟨R, 0, none⟩)] w fun e w' => e = .returned (.agg #[.int .i64 q, .int .i64 i, .int .i64 p1, .int .i64 q1, .int .i64 p2, .int .i64 q2]) ∧ RdTo w R v l w' (a + (alertBytes (q, i, (p1, q1), (p2, q2))).length) 0 := by
 have H := hH h
 have hR := h.lt
 obtain ⟨⟨b1, b2⟩, ⟨b3, b4⟩, b5, b6⟩ := alertB_iff hB
 dsimp only at b1 b2 b3 b4 b5 b6
 obtain ⟨Q, rfl⟩ : ∃ Q : Nat, q = (Q : Int) := ⟨q.toNat, by omega⟩
 obtain ⟨I, rfl⟩ : ∃ I : Nat, i = (I : Int) := ⟨i.toNat, by omega⟩
 have eb : alertBytes ((Q : Int), (I : Int), (p1, q1), (p2, q2)) = putsU Q ++ putsU I ++ scoreBytes (p1, q1) ++ scoreBytes (p2, q2) := rfl
 have hr0 := hr
 unfold alertBytes at hr
 dsimp only at hr
 rw [List.append_assoc, List.append_assoc, List.append_assoc] at hr
 obtain ⟨g1, k1⟩ := hr.n Q 1099511627776 (by omega) (by omega)
 obtain ⟨g2, k2⟩ := k1.n I 1099511627776 (by omega) (by omega)
 have k3 := k2.next
 obtain ⟨a1, ha1⟩ : ∃ a1, a + (putsU Q).length = a1 := ⟨_, rfl⟩
 obtain ⟨a2, ha2⟩ : ∃ a2, a1 + (putsU I).length = a2 := ⟨_, rfl⟩
 obtain ⟨a3, ha3⟩ : ∃ a3, a2 + (scoreBytes (p1, q1)).length = a3 := ⟨_, rfl⟩
 obtain ⟨a4, ha4⟩ : ∃ a4, a3 + (scoreBytes (p2, q2)).length = a4 := ⟨_, rfl⟩
 rw [ha1] at g1 k1 g2 k2 k3
 rw [ha2] at g2 k2 k3
 rw [ha3] at k3
 have e4 : a + (alertBytes ((Q : Int), (I : Int), (p1, q1), (p2, q2))).length = a4 := by rw [eb]; simp only [List.length_append]; omega
 rw [e4]
 have H1 := hH (fun W (hW : Rd W R v l a 0) => rdN_call hb hr0.le hl 1099511627776 (by decide) _ _ _ g1 hW)
 have H2 := hH (fun W (hW : Rd W R v l a1 0) => rdN_call hb k1.le hl 1099511627776 (by decide) _ _ _ g2 hW)
 have H3 := hH (fun W (hW : Rd W R v l a2 0) => ha3 ▸ getScore_put hW hb hl k2 b5)
 have H4 := hH (fun W (hW : Rd W R v l a3 0) => ha4 ▸ getScore_put hW hb hl k3 b6)
 have H5 := hH (fun W (hW : Rd W R v l a4 0) => checkedL_ok hW (Q : Int) (I : Int) p1 q1 p2 q2 hB)
 clear h hb hl hr hr0 hB b1 b2 b3 b4 b5 b6 eb g1 g2 k1 k2 k3 ha1 ha2 ha3 ha4 e4
 go_enter Tryz.func65, Tryz.ntmps65
 go_wp2_with fail
 (with_reducible refine (H1.out _ (H.out.below bw)).mono ?_); rintro e w1 ⟨rfl, r1⟩; have gg1 := r1.2; have T1 := hH (RdTo.from (w := w) (show Below w.heap.size w _ from bw) r1); have y1 := gg1.size; have x1 := T1.out.2.size; obtain ⟨c1_0, f1_0, c1_1, f1_1, c1_2, f1_2, c1_3, f1_3, c1_4, f1_4, c1_5, f1_5⟩ := g6f (w.heap.size) (.int .i64 0) (.int .i64 0) (.int .i64 0) (.int .i64 0) (.int .i64 0) (.int .i64 0) gg1 aJ; obtain ⟨l1_0, n1_0, m1_0⟩ := lnm (show w.heap.size < w1.heap.size by first | omega | (simp at y1; omega)); clear r1 gg1
 go_wp2_with fail
 (with_reducible refine (H2.out _ (RdTo.belowB H.out T1.out bw).rd).mono ?_); rintro e w2 ⟨rfl, r2⟩; have gg2 := r2.2; have T2 := hH (RdTo.trans (RdTo.belowB H.out T1.out bw) r2); have y2 := gg2.size; have x2 := T2.out.2.size; obtain ⟨c2_0, f2_0, c2_1, f2_1, c2_2, f2_2, c2_3, f2_3, c2_4, f2_4, c2_5, f2_5⟩ := g6f (w.heap.size) (.int .i64 0) (.int .i64 0) (.int .i64 0) (.int .i64 0) (.int .i64 0) (.int .i64 0) gg2 aJ; obtain ⟨c2_6, f2_6, c2_7, f2_7, c2_8, f2_8, c2_9, f2_9, c2_10, f2_10, c2_11, f2_11⟩ := g6f (w1.heap.size) (.int .i64 Q) (.int .i64 0) (.int .i64 0) (.int .i64 0) (.int .i64 0) (.int .i64 0) gg2 aJ; obtain ⟨l2_0, n2_0, m2_0⟩ := lnm (show w.heap.size < w2.heap.size by first | omega | (simp at y2; omega)); obtain ⟨l2_1, n2_1, m2_1⟩ := lnm (show w1.heap.size < w2.heap.size by first | omega | (simp at y2; omega)); clear r2 gg2
 go_wp2_with fail
 (with_reducible refine (H3.out _ (RdTo.belowB H.out T2.out bw).rd).mono ?_); rintro e w3 ⟨rfl, r3⟩; have gg3 := r3.2; have T3 := hH (RdTo.trans (RdTo.belowB H.out T2.out bw) r3); have y3 := gg3.size; have x3 := T3.out.2.size; obtain ⟨c3_0, f3_0, c3_1, f3_1, c3_2, f3_2, c3_3, f3_3, c3_4, f3_4, c3_5, f3_5⟩ := g6f (w.heap.size) (.int .i64 0) (.int .i64 0) (.int .i64 0) (.int .i64 0) (.int .i64 0) (.int .i64 0) gg3 aJ; obtain ⟨c3_6, f3_6, c3_7, f3_7, c3_8, f3_8, c3_9, f3_9, c3_10, f3_10, c3_11, f3_11⟩ := g6f (w1.heap.size) (.int .i64 Q) (.int .i64 I) (.int .i64 0) (.int .i64 0) (.int .i64 0) (.int .i64 0) gg3 aJ; obtain ⟨l3_0, n3_0, m3_0⟩ := lnm (show w.heap.size < w3.heap.size by first | omega | (simp at y3; omega)); obtain ⟨l3_1, n3_1, m3_1⟩ := lnm (show w1.heap.size < w3.heap.size by first | omega | (simp at y3; omega)); clear r3 gg3
 go_wp2_with fail
 (with_reducible refine (H4.out _ (RdTo.belowB H.out T3.out bw).rd).mono ?_); rintro e w4 ⟨rfl, r4⟩; have gg4 := r4.2; have T4 := hH (RdTo.trans (RdTo.belowB H.out T3.out bw) r4); have y4 := gg4.size; have x4 := T4.out.2.size; obtain ⟨c4_0, f4_0, c4_1, f4_1, c4_2, f4_2, c4_3, f4_3, c4_4, f4_4, c4_5, f4_5⟩ := g6f (w.heap.size) (.int .i64 0) (.int .i64 0) (.int .i64 0) (.int .i64 0) (.int .i64 0) (.int .i64 0) gg4 aJ; obtain ⟨c4_6, f4_6, c4_7, f4_7, c4_8, f4_8, c4_9, f4_9, c4_10, f4_10, c4_11, f4_11⟩ := g6f (w1.heap.size) (.int .i64 Q) (.int .i64 I) (.int .i64 p1) (.int .i64 q1) (.int .i64 0) (.int .i64 0) gg4 aJ; obtain ⟨l4_0, n4_0, m4_0⟩ := lnm (show w.heap.size < w4.heap.size by first | omega | (simp at y4; omega)); obtain ⟨l4_1, n4_1, m4_1⟩ := lnm (show w1.heap.size < w4.heap.size by first | omega | (simp at y4; omega)); clear r4 gg4
 go_wp2_with fail
 (with_reducible refine (H5.out _ (RdTo.belowB H.out T4.out bw).rd).mono ?_); rintro e w5 ⟨rfl, r5⟩; have gg5 := r5.2; have T5 := hH (RdTo.trans (RdTo.belowB H.out T4.out bw) r5); have y5 := gg5.size; have x5 := T5.out.2.size; obtain ⟨c5_0, f5_0, c5_1, f5_1, c5_2, f5_2, c5_3, f5_3, c5_4, f5_4, c5_5, f5_5⟩ := g6f (w.heap.size) (.int .i64 0) (.int .i64 0) (.int .i64 0) (.int .i64 0) (.int .i64 0) (.int .i64 0) gg5 aJ; obtain ⟨l5_0, n5_0, m5_0⟩ := lnm (show w.heap.size < w5.heap.size by first | omega | (simp at y5; omega)); clear r5 gg5
 go_wp2_with fail
 exact bodyPost_ret (v := .agg #[.int .i64 (Q : Int), .int .i64 (I : Int), .int .i64 p1, .int .i64 q1, .int .i64 p2, .int .i64 q2]) (by simp [results, Tryz.results65, go_sem, *]) rfl ⟨rfl, RdTo.belowB H.out T5.out bw⟩
end Go.Proofs.YtgobbecpnjelmaaGreat
