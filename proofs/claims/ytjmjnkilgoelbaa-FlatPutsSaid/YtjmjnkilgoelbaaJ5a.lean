/-
  FlatG: Put accepted: what stands between its parts.
  FlatI: The arrays of one tree, as Put takes them.
-/
import Derived.Test.YtjmjnkilgoelbaaKFlatF
import Derived.Test.YtjmjnkilgoelbaaKFlatC
import Derived.Test.YtjmjnkilgoelbaaKRowU
namespace Go.Proofs.Ytjmjnkilgoelbaa
open Go.RowKit

/-- A block apart from others. -/
def Apart (U : World) (fs : List Nat) (b : Nat) : Prop := b < U.heap.size ∧ b ∉ fs

theorem Apart.step {U U' : World} {fs fs' : List Nat} {b : Nat} (h : Apart U fs b) (k : OnlyIn fs U U') (hf : ∀ x, x ∈ fs' → x ∈ fs ∨ U.heap.size ≤ x) : Apart U' fs' b ∧ U'.heap[b]? = U.heap[b]? :=
  ⟨⟨Nat.lt_of_lt_of_le h.1 k.size, fun hm => (hf b hm).elim h.2 fun hz => by have := h.1; omega⟩, k.block b h.1 h.2⟩

/-- Integers that lie apart. -/
def IntsOff (U : World) (fs : List Nat) (v : Value) (l : List Int) : Prop := Ints .i64 U v l ∧ ∀ b o n c, v = .slice (some ⟨b, o, none⟩) n c → Apart U fs b

theorem IntsOff.step {U U' : World} {fs fs' : List Nat} {v : Value} {l : List Int} (h : IntsOff U fs v l) (k : OnlyIn fs U U') (hf : ∀ x, x ∈ fs' → x ∈ fs ∨ U.heap.size ≤ x) : IntsOff U' fs' v l := by
  refine ⟨?_, fun b o n c e => ((h.2 b o n c e).step k hf).1⟩
  obtain ⟨⟨a, c, rfl, h1, h2, h3, h4⟩, hap⟩ := h
  refine ⟨a, c, rfl, h1, h2, h3, fun i x hi => ?_⟩
  obtain ⟨b, o, rfl, hb, hc⟩ := h4 i x hi
  exact ⟨b, o, rfl, Nat.lt_of_lt_of_le hb k.size, (World.cell?_of_block (a := ⟨b, _, none⟩) ((hap b o _ _ rfl).step k hf).2).trans hc⟩

/-- Put's state: the pack with rows of its own. -/
structure PutSt (w U : World) (F : List Nat) (B P : Nat) (d : Int) (vs : List Value) (ls : List (List Int)) (nv : Value) : Prop where
  only : OnlyIn F w U
  fa : FlatAt U B P d vs ls
  foot : ∀ b, b ∈ P :: rowsB vs → b ∈ F ∨ w.heap.size ≤ b
  n8 : U.cell? ⟨P, 8, none⟩ = some nv
  nr : IntsOff U (P :: rowsB vs) nv normsL

theorem PutSt.below {w U U' : World} {F : List Nat} {B P : Nat} {d : Int} {vs : List Value} {ls : List (List Int)} {nv : Value} (S : PutSt w U F B P d vs ls nv) (h : Below U.heap.size U U') : PutSt w U' F B P d vs ls nv :=
  ⟨S.only.trans (OnlyIn.ofBelow (F := []) h) (by simp), S.fa.below h, S.foot, (h.cell (p := ⟨P, 8, none⟩) S.fa.lt).trans S.n8, S.nr.step (OnlyIn.ofBelow h) fun x hx => .inl hx⟩

/-- A row has changed, and is stored. -/
theorem PutSt.setRow {w U w1 : World} {F : List Nat} {B P : Nat} {d : Int} {vs : List Value} {ls : List (List Int)} {nv : Value} (S : PutSt w U F B P d vs ls nv) {k : Nat} {v v' : Value} {l' : List Int} (hv : vs[k]? = some v) (hk : k < 7) (hg : U.grownBy w1 v.ownBlock)
    (hr : w1.ownsRow B 3 1 v' l'.length (intF l')) (hb : v'.ownBlock = v.ownBlock ∨ ∃ b, v'.ownBlock = some b ∧ U.heap.size ≤ b) :
    PutSt w (w1.setCell ⟨P, k + 1, none⟩ v') F B P d (vs.set k v') (ls.set k l') nv ∧ OnlyIn (P :: rowsB vs) U (w1.setCell ⟨P, k + 1, none⟩ v') ∧ ∀ x, x ∈ P :: rowsB (vs.set k v') → x ∈ P :: rowsB vs ∨ U.heap.size ≤ x := by
  obtain ⟨h1, h2, h3⟩ := S.fa.setRow hv hg hr hb
  have hP : w1.heap[P]? = U.heap[P]? := hg.block _ S.fa.lt fun e => (S.fa.others hv (b := P) (by simp)).2.1 e.symm
  refine ⟨⟨S.only.trans h2 S.foot, h1, fun b hb => ?_, ?_, S.nr.step h2 h3⟩, h2, h3⟩
  · rcases h3 b hb with h | h
    · exact S.foot b h
    · have := S.only.size
      exact .inr (by omega)
  · have hne : (k + 1) ≠ 8 := by omega
    have e : w1.cell? ⟨P, 8, none⟩ = some nv := (World.cell?_of_block (a := ⟨P, 8, none⟩) hP).trans S.n8
    go_simp

/-- A row has changed in its place. -/
theorem PutSt.inRow {w U w1 : World} {F : List Nat} {B P : Nat} {d : Int} {vs : List Value} {ls : List (List Int)} {nv : Value} (S : PutSt w U F B P d vs ls nv) {k : Nat} {v : Value} {l' : List Int} (hv : vs[k]? = some v) (hg : U.grownBy w1 v.ownBlock)
    (hr : w1.ownsRow B 3 1 v l'.length (intF l')) : PutSt w w1 F B P d vs (ls.set k l') nv ∧ OnlyIn (P :: rowsB vs) U w1 := by
  obtain ⟨h1, h2⟩ := S.fa.inRow hv hg hr
  have hP : w1.heap[P]? = U.heap[P]? := hg.block _ S.fa.lt fun e => (S.fa.others hv (b := P) (by simp)).2.1 e.symm
  exact ⟨⟨S.only.trans h2 S.foot, h1, S.foot, (World.cell?_of_block (a := ⟨P, 8, none⟩) hP).trans S.n8, S.nr.step h2 fun x hx => .inl hx⟩, h2⟩
/-- The arrays of the new part, and the tree's box: apart from the pack. -/
structure NewAt (U : World) (fs : List Nat) (T H : Nat) (D : Int) (us : List Value) (ns : List (List Int)) : Prop where
  tA : Apart U fs T
  tD : U.cell? ⟨T, 0, none⟩ = some (.int .i64 D)
  hA : Apart U fs H
  hC : ∀ (k : Nat) (u : Value), us[k]? = some u → U.cell? ⟨H, k + 2, none⟩ = some u
  hR : ∀ (k : Nat) (u : Value) (n : List Int), us[k]? = some u → ns[k]? = some n → IntsOff U fs u n

theorem NewAt.step {U U' : World} {fs fs' : List Nat} {T H : Nat} {D : Int} {us : List Value} {ns : List (List Int)} (N : NewAt U fs T H D us ns) (k : OnlyIn fs U U') (hf : ∀ x, x ∈ fs' → x ∈ fs ∨ U.heap.size ≤ x) : NewAt U' fs' T H D us ns :=
  ⟨(N.tA.step k hf).1, (World.cell?_of_block (a := ⟨T, 0, none⟩) (N.tA.step k hf).2).trans N.tD, (N.hA.step k hf).1, fun j u hu => (World.cell?_of_block (a := ⟨H, j + 2, none⟩) (N.hA.step k hf).2).trans (N.hC j u hu), fun j u n hu hn => (N.hR j u n hu hn).step k hf⟩

/-- The pack under change, and what is put in. -/
structure PutNow (w U : World) (F : List Nat) (B P : Nat) (d : Int) (vs : List Value) (ls : List (List Int)) (nv : Value) (T H : Nat) (D : Int) (us : List Value) (ns : List (List Int)) : Prop where
  st : PutSt w U F B P d vs ls nv
  nw : NewAt U (P :: rowsB vs) T H D us ns

theorem PutNow.below {w U U' : World} {F : List Nat} {B P : Nat} {d : Int} {vs : List Value} {ls : List (List Int)} {nv : Value} {T H : Nat} {D : Int} {us : List Value} {ns : List (List Int)} (S : PutNow w U F B P d vs ls nv T H D us ns) (h : Below U.heap.size U U') : PutNow w U' F B P d vs ls nv T H D us ns :=
  ⟨S.st.below h, S.nw.step (OnlyIn.ofBelow h) fun _ hx => .inl hx⟩

theorem PutNow.setRow {w U w1 : World} {F : List Nat} {B P : Nat} {d : Int} {vs : List Value} {ls : List (List Int)} {nv : Value} {T H : Nat} {D : Int} {us : List Value} {ns : List (List Int)} (S : PutNow w U F B P d vs ls nv T H D us ns) {k : Nat} {v v' : Value} {l' : List Int} (hv : vs[k]? = some v) (hk : k < 7) (hg : U.grownBy w1 v.ownBlock)
    (hr : w1.ownsRow B 3 1 v' l'.length (intF l')) (hb : v'.ownBlock = v.ownBlock ∨ ∃ b, v'.ownBlock = some b ∧ U.heap.size ≤ b) :
    PutNow w (w1.setCell ⟨P, k + 1, none⟩ v') F B P d (vs.set k v') (ls.set k l') nv T H D us ns := by
  obtain ⟨h1, h2, h3⟩ := S.st.setRow hv hk hg hr hb
  exact ⟨h1, S.nw.step h2 h3⟩

theorem PutNow.inRow {w U w1 : World} {F : List Nat} {B P : Nat} {d : Int} {vs : List Value} {ls : List (List Int)} {nv : Value} {T H : Nat} {D : Int} {us : List Value} {ns : List (List Int)} (S : PutNow w U F B P d vs ls nv T H D us ns) {k : Nat} {v : Value} {l' : List Int} (hv : vs[k]? = some v) (hg : U.grownBy w1 v.ownBlock)
    (hr : w1.ownsRow B 3 1 v l'.length (intF l')) : PutNow w w1 F B P d vs (ls.set k l') nv T H D us ns := by
  obtain ⟨h1, h2⟩ := S.st.inRow hv hg hr
  exact ⟨h1, S.nw.step h2 fun _ hx => .inl hx⟩

/-- A row's cell has changed. -/
theorem PutNow.inCell {w U : World} {F : List Nat} {B P : Nat} {d : Int} {vs : List Value} {ls : List (List Int)} {nv : Value} {T H : Nat} {D : Int} {us : List Value} {ns : List (List Int)} (S : PutNow w U F B P d vs ls nv T H D us ns) {k g n c : Nat} {l : List Int} (hv : vs[k]? = some (.slice (some ⟨g, 0, none⟩) n c)) (hl : ls[k]? = some l) (i : Nat) (x : Int) :
    PutNow w (U.setCell ⟨g, i, none⟩ (.int .i64 x)) F B P d vs (ls.set k (l.set i x)) nv T H D us ns := by
  have ho := S.st.fa.rows k _ l hv hl
  obtain rfl : n = l.length := by
    rcases ho.2 with ⟨e, _⟩ | ⟨_, _, _, e, _⟩
    · cases e
    · injection e
  refine S.inRow (k := k) hv ?_ ?_
  · exact (ho.stored i (.int .i64 x)).2
  · rw [List.length_set, intF_set]
    exact (ho.stored i (.int .i64 x)).1
theorem IntsOff.new {V : World} {fs : List Nat} {v : Value} {l : List Int} {C : Nat} (h : Ints .i64 V v l) (hf : Fresh C v) (h0 : 1 ≤ l.length) (hfs : ∀ x, x ∈ fs → x < C) : IntsOff V fs v l := by
  refine ⟨h, fun b o n c e => ?_⟩
  obtain ⟨a', c', e', _, _, _, h4⟩ := h
  obtain ⟨x, hx⟩ := getElem?_ex (l := l) (k := 0) h0
  obtain ⟨b', o', rfl, hb, _⟩ := h4 0 x hx
  rw [e] at e'
  injection e' with e1 e2 _
  injection e1 with e1
  injection e1 with e1 _
  have hlow := hf ⟨b, o, none⟩ n c e (by omega)
  dsimp only at hlow
  exact ⟨by omega, fun hm => by have := hfs b hm; omega⟩

/-- The integer is written: the pack stands. -/
theorem PutSt.fin {w U : World} {F : List Nat} {B P : Nat} {d : Int} {vs : List Value} {ls : List (List Int)} {nv : Value} (S : PutSt w U F B P d vs ls nv) {l' : List TreeP} {D : Int} (hl : ls = flatL l') (hD : dimL l' = D) (hm : l'.length ≤ 16) (hok : ∀ t ∈ l', treeB t = true ∧ t.dim = D) :
    PackAt (U.setCell ⟨P, 0, none⟩ (.int .i64 D)) B P l' vs nv ∧ OnlyIn F w (U.setCell ⟨P, 0, none⟩ (.int .i64 D)) ∧ ∀ b, b ∈ P :: rowsB vs → b ∈ F ∨ w.heap.size ≤ b := by
  subst hl hD
  obtain ⟨h1, h2⟩ := S.fa.setDim (dimL l')
  have hn := S.nr.step h2 (fs' := P :: rowsB vs) fun x hx => .inl hx
  refine ⟨⟨h1, ?_, hn.1, fun b o n c e => (hn.2 b o n c e).2, hm, hok⟩, S.only.trans h2 S.foot, S.foot⟩
  have e := S.n8
  go_simp

theorem PackAt.putSt {w U : World} {B P : Nat} {l : List TreeP} {vs : List Value} {nv : Value} (h : PackAt w B P l vs nv) (b : Below w.heap.size w U) : PutSt w U (P :: rowsB vs) B P (dimL l) vs (flatL l) nv := by
  refine ⟨OnlyIn.ofBelow b, (h.below b).fa, fun b hb => .inl hb, (h.below b).n8, (h.below b).nr, fun c o n k e => ⟨?_, h.na c o n k e⟩⟩
  obtain ⟨a', c', e', _, _, _, hc'⟩ := (h.below b).nr
  rw [e] at e'
  injection e' with q1 _ _
  obtain ⟨b', o', q2, hb', _⟩ := hc' 0 _ (normsL_get (i := 0) (by omega))
  rw [← q1] at q2
  injection q2 with q2
  injection q2 with q2
  rw [q2]
  exact hb'

theorem moveL_len (f : Nat) (b : Int) (l : List Int) : (moveL f b l).length = l.length := by simp [moveL]

theorem dimL_all {l : List TreeP} {D : Int} (h : ∀ t ∈ l, t.dim = D) (h0 : l ≠ []) : dimL l = D := by
  unfold dimL
  cases hl : l.getLast? with
  | none => exact absurd (List.getLast?_eq_none_iff.1 hl) h0
  | some t => exact h t (List.mem_of_getLast? hl)
theorem own_some {w : World} {base e n : Nat} {v : Value} {xs : List Value} (h : w.ownsRow base e 1 v n xs) (h0 : 1 ≤ n) : ∃ g c, v = .slice (some ⟨g, 0, none⟩) n c ∧ base ≤ g ∧ g < w.heap.size := by
  rcases h.2 with ⟨_, e⟩ | ⟨g, cap, cur, rfl, hb, hrow, _⟩
  · omega
  · exact ⟨g, cap, rfl, hb, (Array.getElem?_eq_some_iff.1 hrow).1⟩

set_option maxRecDepth 100000 in
theorem fend_last {w : World} {B P : Nat} {d : Int} {vs : List Value} {SL CL AL LL RL DL ZL : List Int} (h : FlatAt w B P d vs [SL, CL, AL, LL, RL, DL, ZL]) (i q : Nat) (hl : SL.length = i + 1) (hi : i < 16) (ha : AL.length = q) (hq : q ≤ 2032) : Calls Try.prog 136 #[.pointer (some ⟨P, 0, none⟩), .int .i64 i] w fun e w' => e = .returned (.int .i64 (q : Nat)) ∧ w = w' := by
  have hi16 : (i : Int) < 16 := by omega
  have hi0 : (0 : Int) ≤ i := by omega
  have h7 : vs.length = 7 := h.len.trans rfl
  obtain ⟨v0, v1, v2, v3, v4, v5, v6, rfl⟩ : ∃ v0 v1 v2 v3 v4 v5 v6, vs = [v0, v1, v2, v3, v4, v5, v6] := by
    match vs, h7 with
    | [v0, v1, v2, v3, v4, v5, v6], _ => exact ⟨_, _, _, _, _, _, _, rfl⟩
  have H0 := (Ints.own (h.rows 0 _ _ rfl rfl) (by omega)).2
  have H2 := (Ints.own (h.rows 2 _ _ rfl rfl) (by omega)).2
  have p1 := (h.cs 0 _ rfl).1
  have p3 := (h.cs 2 _ rfl).1
  obtain ⟨a2, c2, rfl⟩ := H2.shape
  obtain ⟨a0, c0, rfl⟩ := H0.shape
  rw [hl] at p1
  rw [ha] at p3
  have hlt := h.lt
  clear h H2 H0 h7
  have hlI : ¬ (i : Int) + 1 < ((i + 1 : Nat) : Int) := by omega
  obtain ⟨n, hn⟩ : ∃ n, i + 1 = n := ⟨_, rfl⟩
  rw [hn] at hlI p1
  clear hn hl
  go_enter Try.func136, Try.ntmps136
  go_wp2_with fail
  go_ret
  exact ⟨rfl, rfl⟩
end Go.Proofs.Ytjmjnkilgoelbaa

namespace Go.Proofs.Ytjmjnkilgoelbaa
open Go.RowKit

theorem startsL_nil (s : Nat) : startsL s [] = [] := rfl

theorem partLs_all (t : TreeP) (s : Nat) : partLs t s t.nodes.length = [[], coefT t, atT t, leftT s t, rightT s t, addT t, sizeT t] := by
  unfold partLs
  rw [List.take_length, List.take_of_length_le (by simp [addT])]
  rfl

theorem part_all (P0 : Nat) (nv v : Value) (t : TreeP) (s : Nat) (w : World) (hT : treeB t = true) (h : TreeR w v t) (hP : w.cell? ⟨P0, 8, none⟩ = some nv) (hn : Ints .i64 w nv normsL) (hs : s ≤ 100000)
    {n1 n2 n3 n4 n5 n6 : Nat} (q1 : (coefT t).length = n1) (q2 : (atT t).length = n2) (q3 : (leftT s t).length = n3) (q4 : (rightT s t).length = n4) (q5 : (addT t).length = n5) (q6 : (sizeT t).length = n6) :
    Calls Try.prog 141 #[.pointer (some ⟨P0, 0, none⟩), v, .int .i64 s] w fun e w' => ∃ y0 m0 r0 y1 r1 y2 r2 y3 r3 y4 r4 y5 r5 y6 r6, e = .returned (.agg #[.int .i64 t.dim, .slice y0 m0 r0, .slice y1 n1 r1, .slice y2 n2 r2, .slice y3 n3 r3, .slice y4 n4 r4, .slice y5 n5 r5, .slice y6 n6 r6]) ∧
      (∀ (k : Nat) (v : Value) (l : List Int), [Value.slice y1 n1 r1, .slice y2 n2 r2, .slice y3 n3 r3, .slice y4 n4 r4, .slice y5 n5 r5, .slice y6 n6 r6][k]? = some v → [coefT t, atT t, leftT s t, rightT s t, addT t, sizeT t][k]? = some l → Ints .i64 w' v l ∧ Fresh w.heap.size v) ∧ Below w.heap.size w w' := by
  refine (part_any P0 nv v t s w hT h hP hn hs).mono ?_
  rintro e w' ⟨u0, u1, u2, u3, u4, u5, u6, rfl, hu, hb⟩
  rw [partLs_all] at hu
  obtain ⟨y0, r0, rfl⟩ := (hu 0 _ _ rfl rfl).1.shape
  obtain ⟨y1, r1, rfl⟩ := (hu 1 _ _ rfl rfl).1.shape
  obtain ⟨y2, r2, rfl⟩ := (hu 2 _ _ rfl rfl).1.shape
  obtain ⟨y3, r3, rfl⟩ := (hu 3 _ _ rfl rfl).1.shape
  obtain ⟨y4, r4, rfl⟩ := (hu 4 _ _ rfl rfl).1.shape
  obtain ⟨y5, r5, rfl⟩ := (hu 5 _ _ rfl rfl).1.shape
  obtain ⟨y6, r6, rfl⟩ := (hu 6 _ _ rfl rfl).1.shape
  rw [q1, q2, q3, q4, q5, q6] at hu ⊢
  refine ⟨y0, _, r0, y1, r1, y2, r2, y3, r3, y4, r4, y5, r5, y6, r6, rfl, fun k v l hv hl => hu (k + 1) v l ?_ ?_, hb⟩
  · rw [List.getElem?_cons_succ]; exact hv
  · rw [List.getElem?_cons_succ]; exact hl

/-- The state behind part's call. -/
theorem PutNow.mk' {w U V : World} {F : List Nat} {B P : Nat} {d D : Int} {vs : List Value} {ls : List (List Int)} {nv : Value} {T H : Nat} {us : List Value} {ns : List (List Int)} (S : PutSt w U F B P d vs ls nv) (hb : Below U.heap.size U V) (hT : Apart U (P :: rowsB vs) T) (tD : U.cell? ⟨T, 0, none⟩ = some (.int .i64 D))
    (hH : U.heap.size ≤ H ∧ H < V.heap.size) (hC : ∀ (k : Nat) (u : Value), us[k]? = some u → V.cell? ⟨H, k + 2, none⟩ = some u) (hR : ∀ (k : Nat) (u : Value) (n : List Int), us[k]? = some u → ns[k]? = some n → Ints .i64 V u n ∧ Fresh U.heap.size u) (h1 : ∀ n ∈ ns, 1 ≤ n.length) :
    PutNow w V F B P d vs ls nv T H D us ns :=
  ⟨S.below hb, ⟨(hT.step (OnlyIn.ofBelow (F := P :: rowsB vs) hb) fun _ hx => .inl hx).1, (hb.cell (p := ⟨T, 0, none⟩) hT.1).trans tD, ⟨hH.2, fun hm => by have := S.fa.foot hm; omega⟩, hC, fun k u n hu hn => IntsOff.new (hR k u n hu hn).1 (hR k u n hu hn).2 (h1 n (List.mem_of_getElem? hn)) fun x hx => S.fa.foot hx⟩⟩
end Go.Proofs.Ytjmjnkilgoelbaa
