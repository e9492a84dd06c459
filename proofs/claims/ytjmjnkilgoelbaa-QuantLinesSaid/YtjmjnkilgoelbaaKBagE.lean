/-
  BagE: Walk of Add.
-/
import Derived.Test.YtjmjnkilgoelbaaJ1a
import Derived.Test.YtjmjnkilgoelbaaJ0b
namespace Go.Proofs.Ytjmjnkilgoelbaa
open Go.RowKit

theorem mem_set_or {α : Type} {l : List α} {i : Nat} {x a : α} (h : a ∈ l.set i x) : a ∈ l ∨ a = x := List.mem_or_eq_of_mem_set h

theorem bagP_ins {bs : List (List (Int × Int))} (hp : BagP bs) {i : Nat} {l' : List (Int × Int)} (h0 : l' ≠ []) (hl : l'.length ≤ 32) (hso : SortedS (bs.set i l').flatten) (hal : allS (bs.set i l').flatten = true) (hm : (bs.set i l').flatten.length ≤ 4096) : BagP (bs.set i l') :=
  ⟨fun l h => by rcases mem_set_or h with h | h; exact hp.some l h; rw [h]; exact h0, fun l h => by rcases mem_set_or h with h | h; exact hp.few l h; rw [h]; exact hl, hso, hal, hm⟩

theorem split_flat {bs : List (List (Int × Int))} {i h : Nat} (hi : i < bs.length) (l' : List (Int × Int)) :
    ((bs.set i (l'.take h)).take (i + 1) ++ [l'.drop h] ++ (bs.set i (l'.take h)).drop (i + 1)).flatten = (bs.set i l').flatten := by
  rw [set_flat hi l']
  have e1 : (bs.set i (l'.take h)).take (i + 1) = bs.take i ++ [l'.take h] := by
    rw [List.take_succ_eq_append_getElem (by simpa using hi), List.getElem_set_self, List.take_set, List.set_eq_of_length_le (by rw [List.length_take]; omega)]
  have e2 : (bs.set i (l'.take h)).drop (i + 1) = bs.drop (i + 1) := List.drop_set_of_lt (by omega)
  rw [e1, e2]
  simp only [List.flatten_append, List.flatten_cons, List.flatten_nil, List.append_nil, List.append_assoc]
  rw [← List.append_assoc (l'.take h), List.take_append_drop]

theorem bagP_split {bs : List (List (Int × Int))} (hp : BagP bs) {i h : Nat} {l' : List (Int × Int)} (hi : i < bs.length) (h0 : 0 < h) (h1 : h < l'.length) (h2 : h ≤ 32) (h3 : l'.length ≤ h + 32) (hso : SortedS (bs.set i l').flatten) (hal : allS (bs.set i l').flatten = true) (hm : (bs.set i l').flatten.length ≤ 4096) :
    BagP ((bs.set i (l'.take h)).take (i + 1) ++ [l'.drop h] ++ (bs.set i (l'.take h)).drop (i + 1)) := by
  have hmem : ∀ l, l ∈ (bs.set i (l'.take h)).take (i + 1) ++ [l'.drop h] ++ (bs.set i (l'.take h)).drop (i + 1) → l ∈ bs ∨ l = l'.take h ∨ l = l'.drop h := fun l hl => by
    rcases List.mem_append.1 hl with hl | hl
    · rcases List.mem_append.1 hl with hl | hl
      · rcases mem_set_or (List.mem_of_mem_take hl) with hl | hl
        · exact .inl hl
        · exact .inr (.inl hl)
      · exact .inr (.inr (by simpa using hl))
    · rcases mem_set_or (List.mem_of_mem_drop hl) with hl | hl
      · exact .inl hl
      · exact .inr (.inl hl)
  refine ⟨fun l hl => ?_, fun l hl => ?_, by rw [split_flat hi]; exact hso, by rw [split_flat hi]; exact hal, by rw [split_flat hi]; exact hm⟩
  · rcases hmem l hl with hl | rfl | rfl
    · exact hp.some l hl
    · exact List.ne_nil_of_length_pos (by rw [List.length_take]; omega)
    · exact List.ne_nil_of_length_pos (by rw [List.length_drop]; omega)
  · rcases hmem l hl with hl | rfl | rfl
    · exact hp.few l hl
    · rw [List.length_take]; omega
    · rw [List.length_drop]; omega

theorem pairF_ins (l : List (Int × Int)) (k : Nat) (s : Int × Int) : (l.flatMap pairF).take (k * 2) ++ pairF s ++ (l.flatMap pairF).drop (k * 2) = (l.take k ++ [s] ++ l.drop k).flatMap pairF := by
  have h : ∀ (l : List (Int × Int)) (k : Nat), (l.flatMap pairF).take (k * 2) = (l.take k).flatMap pairF ∧ (l.flatMap pairF).drop (k * 2) = (l.drop k).flatMap pairF := by
    intro l
    induction l with
    | nil => intro k; simp
    | cons a l ih =>
      intro k
      cases k with
      | zero => simp
      | succ k =>
        obtain ⟨h1, h2⟩ := ih k
        rw [List.flatMap_cons, show (k + 1) * 2 = k * 2 + 1 + 1 by omega]
        show List.take (k * 2 + 1 + 1) (Value.int .i64 a.1 :: Value.int .i64 a.2 :: l.flatMap pairF) = _ ∧ List.drop (k * 2 + 1 + 1) (Value.int .i64 a.1 :: Value.int .i64 a.2 :: l.flatMap pairF) = _
        rw [List.take_succ_cons, List.take_succ_cons, List.drop_succ_cons, List.drop_succ_cons, h1, h2, List.take_succ_cons, List.drop_succ_cons]
        exact ⟨rfl, rfl⟩
  rw [(h l k).1, (h l k).2, List.flatMap_append, List.flatMap_append]
  simp

theorem rowAt_new (w : World) (e : TypeId) (cur : Array Value) : RowAt (w.alloc (.cells cur e)) w.heap.size e cur := heap_alloc_new _ _

theorem ne_blk {b vb n c : Nat} (h : vb ≠ b) : (Value.slice (some ⟨b, 0, none⟩) n c).ownBlock ≠ some vb := fun e => h (by injection e with e; exact e.symm)

theorem pair_one (p q : Int) : ∀ u ∈ ([.int .i64 p, .int .i64 q] : List Value), u.oneCell' = true := by
  intro u hu
  simp at hu
  rcases hu with rfl | rfl <;> rfl

theorem BagAt.one {w : World} {P : Nat} {v : Value} {vs : List Value} {bs : List (List (Int × Int))} {m : Nat} (h : BagAt w P v vs bs m) : ∀ u ∈ vs, u.oneCell' = true := fun u hu => by
  obtain ⟨i, hi⟩ := List.getElem?_of_mem hu
  obtain ⟨l, hl⟩ := getElem?_ex (l := bs) (k := i) (by rw [← h.len]; exact (List.getElem?_eq_some_iff.1 hi).1)
  rcases (h.rows i u l hi hl).2 with ⟨rfl, _⟩ | ⟨_, _, _, rfl, _⟩ <;> rfl

theorem slice_one (a : Option Addr) (n c : Nat) : ∀ u ∈ ([.slice a n c] : List Value), u.oneCell' = true := by
  intro u hu
  simp at hu
  subst hu
  rfl

theorem pairF_drop (l : List (Int × Int)) (k : Nat) : (l.flatMap pairF).drop (k * 2) = (l.drop k).flatMap pairF := by
  induction l generalizing k with
  | nil => simp
  | cons a l ih =>
    cases k with
    | zero => simp
    | succ k =>
      rw [List.flatMap_cons, show (k + 1) * 2 = k * 2 + 1 + 1 by omega]
      show List.drop (k * 2 + 1 + 1) (Value.int .i64 a.1 :: Value.int .i64 a.2 :: l.flatMap pairF) = _
      rw [List.drop_succ_cons, List.drop_succ_cons, ih, List.drop_succ_cons]

theorem pairF_take (l : List (Int × Int)) (k : Nat) : (l.flatMap pairF).take (k * 2) = (l.take k).flatMap pairF := by
  induction l generalizing k with
  | nil => simp
  | cons a l ih =>
    cases k with
    | zero => simp
    | succ k =>
      rw [List.flatMap_cons, show (k + 1) * 2 = k * 2 + 1 + 1 by omega]
      show List.take (k * 2 + 1 + 1) (Value.int .i64 a.1 :: Value.int .i64 a.2 :: l.flatMap pairF) = _
      rw [List.take_succ_cons, List.take_succ_cons, ih, List.take_succ_cons]
      rfl

theorem pairF_all {l : List (Int × Int)} : ∀ u ∈ l.flatMap pairF, u.oneCell' = true := fun u hu => by
  obtain ⟨z, rfl⟩ := pairF_one hu
  rfl

/-- What Add leaves. -/
def AddTo (w : World) (P : Nat) (v : Value) (vs : List Value) (bs : List (List (Int × Int))) (s : Int × Int) (w' : World) : Prop :=
  ∃ v' vs' bs', BagAt w' P v' vs' bs' bs'.flatten.length ∧ BagP bs' ∧ bs'.flatten.Perm (s :: bs.flatten) ∧ OnlyIn (P :: blks v vs) w w' ∧ ∀ x, x ∈ blks v' vs' → x ∈ blks v vs ∨ w.heap.size ≤ x

set_option maxRecDepth 100000 in
set_option maxHeartbeats 4000000 in
theorem add_bad (P : Nat) (p q : Int) (w : World) (hs : scoreB (p, q) = false) :
    Calls Try.prog 23 #[.pointer (some ⟨P, 0, none⟩), .agg #[.int .i64 p, .int .i64 q]] w fun e w' => e = .returned (.int .i64 130) ∧ Below w.heap.size w w' := by
  have HS := Lib.hid (fun W => sis_any p q W)
  rw [hs] at HS
  clear hs
  go_enter Try.func23, Try.ntmps23
  go_wp2_with fail
  (with_reducible refine (HS.out _).mono ?_); rintro e w1 ⟨rfl, b1⟩; have s1 : w.heap.size + 1 ≤ w1.heap.size := sz b1; have B1 := Lib.hid (Bc (B := w.heap.size) (a := w) (by (repeat (first | with_reducible exact Below.refl _ _ | with_reducible refine Bs ?_ | with_reducible refine Ba ?_ | with_reducible refine Bd ?_ | with_reducible refine Bn ?_))) b1); clear b1
  go_wp2_with fail
  go_ret
  exact ⟨rfl, B1.out⟩

set_option maxRecDepth 100000 in
set_option maxHeartbeats 4000000 in
theorem add_full (P : Nat) (v : Value) (vs : List Value) (bs : List (List (Int × Int))) (m : Nat) (p q : Int) (w : World) (h : BagAt w P v vs bs m) (hs : scoreB (p, q) = true) (hm : 4096 ≤ m) (hm2 : m ≤ 100000) :
    Calls Try.prog 23 #[.pointer (some ⟨P, 0, none⟩), .agg #[.int .i64 p, .int .i64 q]] w fun e w' => e = .returned (.int .i64 3) ∧ Below w.heap.size w w' := by
  have HS := Lib.hid (fun W => sis_any p q W)
  rw [hs] at HS
  have hlt := h.lt
  have c1 := h.c1
  have hm3 : ¬ (m : Int) < 4096 := by omega
  have hm4 : (4096 : Int) ≤ (m : Int) := by omega
  clear hs h
  go_enter Try.func23, Try.ntmps23
  go_wp2_with fail
  (with_reducible refine (HS.out _).mono ?_); rintro e w1 ⟨rfl, b1⟩; have s1 : w.heap.size + 1 ≤ w1.heap.size := sz b1; have B1 := Lib.hid (Bc (B := w.heap.size) (a := w) (by (repeat (first | with_reducible exact Below.refl _ _ | with_reducible refine Bs ?_ | with_reducible refine Ba ?_ | with_reducible refine Bd ?_ | with_reducible refine Bn ?_))) b1); have c1_0 : w1.cell? ⟨P, 1, none⟩ = some (.int .i64 m) := kc b1 (by go_simp) (by first | omega | (simp; done) | (simp; omega)); obtain ⟨l1_0, n1_0, m1_0⟩ := lnm (show P < w1.heap.size by omega); clear b1
  go_wp2_with fail
  go_ret
  exact ⟨rfl, B1.out⟩

set_option maxRecDepth 100000 in
set_option maxHeartbeats 4000000 in
theorem add_some (P : Nat) (v : Value) (vs : List Value) (bs : List (List (Int × Int))) (p q : Int) (w : World) (h : BagAt w P v vs bs bs.flatten.length) (hp : BagP bs) (hs : scoreB (p, q) = true) (hm : bs.flatten.length < 4096) (h0 : bs ≠ []) :
    Calls Try.prog 23 #[.pointer (some ⟨P, 0, none⟩), .agg #[.int .i64 p, .int .i64 q]] w fun e w' => e = .returned (.int .i64 0) ∧ AddTo w P v vs bs (p, q) w' := by
  have HS := Lib.hid (fun W => sis_any p q W)
  rw [hs] at HS
  have HB := Lib.hid h
  have HP := Lib.hid hp
  have HSC := Lib.hid hs
  have hlt := h.lt
  have c0 := h.c0
  have c1 := h.c1
  have f0 := h.f0
  have f1 := h.f1
  have hpos := List.length_pos_iff.2 h0
  obtain ⟨g, c, rfl, hgc⟩ : ∃ g c, v = .slice (some ⟨g, 0, none⟩) bs.length c ∧ bs.length ≤ c := by
    rcases h.row.2 with ⟨_, h1⟩ | ⟨g, c, _, rfl, _, _, h2, _⟩
    · omega
    · exact ⟨g, c, rfl, h2⟩
  have hnM := bags_len hp.some
  obtain ⟨M, hM⟩ : ∃ M, bs.flatten.length = M := ⟨_, rfl⟩
  have HMM := Lib.hid hM
  rw [hM] at c1 hm HB hnM
  obtain ⟨n, hn⟩ : ∃ n, bs.length = n := ⟨_, rfl⟩
  have HN := Lib.hid hn
  rw [hn] at c0 hpos hgc HB hnM ⊢
  have hgP : g ≠ P := fun e => (List.nodup_cons.1 h.apart).1 (by rw [← e]; exact mem_blks0 (by rw [hn]; rfl))
  have hgl : g < w.heap.size := h.foot (List.mem_cons.2 (.inr (mem_blks0 (by rw [hn]; rfl))))
  have hm3 : (M : Int) < 4096 := by omega
  have hn3 : ¬ ((n : Int) = 0) := by omega
  clear hs h hp hM hn h0
  go_enter Try.func23, Try.ntmps23
  go_wp2_with fail
  (with_reducible refine (HS.out _).mono ?_); rintro e w1 ⟨rfl, b1⟩; have s1 : w.heap.size + 1 ≤ w1.heap.size := sz b1; have B1 := Lib.hid (Bc (B := w.heap.size) (a := w) (by (repeat (first | with_reducible exact Below.refl _ _ | with_reducible refine Bs ?_ | with_reducible refine Ba ?_ | with_reducible refine Bd ?_ | with_reducible refine Bn ?_))) b1); obtain ⟨c1_0, f1_0, c1_1, f1_1⟩ := k2f (P) (.slice (some ⟨g, 0, none⟩) n c) (.int .i64 M) b1 (by and_intros <;> go_simp); obtain ⟨c1_2, c1_3⟩ := k2 (w.heap.size) (.int .i64 p) (.int .i64 q) b1 (by and_intros <;> go_simp); obtain ⟨l1_0, n1_0, m1_0⟩ := lnm (show P < w1.heap.size by omega); obtain ⟨l1_1, n1_1, m1_1⟩ := lnm (show w.heap.size < w1.heap.size by omega); clear b1
  go_wp2_with fail
  have HBm := Lib.hid (show BagAt (w1.setCell ⟨P, 1, none⟩ (.int .i64 ((M : Int) + 1))) P (.slice (some ⟨g, 0, none⟩) n c) vs bs (M + 1) by
    have := (HB.out.below B1.out).many (M + 1)
    rw [Int.natCast_add] at this
    exact this)
  have n4 : IntKind.i64.wrap ((n : Int) - 1) = (n : Int) - 1 := by rw [IntKind.wrap_i64]; omega
  have S1 := Lib.hid B1.out.size
  refine wp_region_held_drew (S := fun w' => w'.cell? ⟨w.heap.size, 0, none⟩ = some (.int .i64 p) ∧ w'.cell? ⟨w.heap.size, 1, none⟩ = some (.int .i64 q) ∧ w'.cell? ⟨P, 0, none⟩ = some (.slice (some ⟨g, 0, none⟩) n c)) (by kernel_rfl) ?_ (fun hHeld => ?_); (focus (first | with_reducible exact True.intro | ((try dsimp only); and_intros <;> first | (go_simp; done) | (go_keep; done)))); (refine lexTk 0 (v := ?_) rfl hHeld ?_ (by kernel_rfl) (fun _ _ _ h => h) ?_ ?_; rotate_left 2; (focus rfl); (focus (intro w hSw; (try dsimp only at hSw); first | (go_simp; done) | (go_simp; with_reducible rfl)))); (try simp only [Act.put, List.setIfInBounds_toArray, List.set_cons_zero, List.set_cons_succ]); (refine lexTk 1 (v := ?_) rfl hHeld ?_ (by kernel_rfl) (fun _ _ _ h => h) ?_ ?_; rotate_left 2; (focus rfl); (focus (intro w hSw; (try dsimp only at hSw); first | (go_simp; done) | (go_simp; with_reducible rfl)))); (try simp only [Act.put, List.setIfInBounds_toArray, List.set_cons_zero, List.set_cons_succ]); (refine lexTk 3 (v := ?_) rfl hHeld ?_ (by kernel_rfl) (fun _ _ _ h => h) ?_ ?_; rotate_left 2; (focus rfl); (focus (intro w hSw; (try dsimp only at hSw); first | (go_simp; done) | (go_simp; with_reducible rfl)))); (try simp only [Act.put, List.setIfInBounds_toArray, List.set_cons_zero, List.set_cons_succ]); (refine lexTk 4 (v := ?_) rfl hHeld ?_ (by kernel_rfl) (fun _ _ _ h => h) ?_ ?_; rotate_left 2; (focus rfl); (focus (intro w hSw; (try dsimp only at hSw); first | (go_simp; done) | (go_simp; with_reducible rfl)))); (try simp only [Act.put, List.setIfInBounds_toArray, List.set_cons_zero, List.set_cons_succ]); (refine lexTk 5 (v := ?_) rfl hHeld ?_ (by kernel_rfl) (fun _ _ _ h => h) ?_ ?_; rotate_left 2; (focus rfl); (focus (intro w hSw; (try dsimp only at hSw); first | (go_simp; done) | (go_simp; with_reducible rfl)))); (try simp only [Act.put, List.setIfInBounds_toArray, List.set_cons_zero, List.set_cons_succ]); (refine lexTk 6 (v := ?_) rfl hHeld ?_ (by kernel_rfl) (fun _ _ _ h => h) ?_ ?_; rotate_left 2; (focus rfl); (focus (intro w hSw; (try dsimp only at hSw); first | (go_simp; done) | (go_simp; with_reducible rfl)))); (try simp only [Act.put, List.setIfInBounds_toArray, List.set_cons_zero, List.set_cons_succ]); (refine lexTk 7 (v := ?_) rfl hHeld ?_ (by kernel_rfl) (fun _ _ _ h => h) ?_ ?_; rotate_left 2; (focus rfl); (focus (intro w hSw; (try dsimp only at hSw); first | (go_simp; done) | (go_simp; with_reducible rfl)))); (try simp only [Act.put, List.setIfInBounds_toArray, List.set_cons_zero, List.set_cons_succ]); (refine lexTk 8 (v := ?_) rfl hHeld ?_ (by kernel_rfl) (fun _ _ _ h => h) ?_ ?_; rotate_left 2; (focus rfl); (focus (intro w hSw; (try dsimp only at hSw); first | (go_simp; done) | (go_simp; with_reducible rfl)))); (try simp only [Act.put, List.setIfInBounds_toArray, List.set_cons_zero, List.set_cons_succ]); refine lexHv 2 rfl ?_ (by kernel_rfl); (intro K hK); (go_simp; (go_at_call 80); ((with_reducible refine (block_any P _ vs bs _ p q _ (HBm.out.below (by (repeat (first | with_reducible exact Below.refl _ _ | with_reducible refine Bs ?_ | with_reducible refine Ba ?_ | with_reducible refine Bd ?_ | with_reducible refine Bn ?_)))) HP.out HSC.out).mono ?_)); (rintro e w2 ⟨r, rfl, r1, r2, r3, b2⟩); (have s2 : w1.heap.size ≤ w2.heap.size := sz b2); (have O2 := Lib.hid (show OnlyIn (P :: blks (.slice (some ⟨g, 0, none⟩) n c) vs) w w2 from ((OnlyIn.ofBelow B1.out).trans (OnlyIn.set (F := P :: blks (.slice (some ⟨g, 0, none⟩) n c) vs) P 1 (.int .i64 ((M : Int) + 1)) (by simp)) (fun x hx => .inl hx)).trans (OnlyIn.ofBelow (F := P :: blks (.slice (some ⟨g, 0, none⟩) n c) vs) (Bc (B := (w1.setCell ⟨P, 1, none⟩ (.int .i64 ((M : Int) + 1))).heap.size) (by (repeat (first | with_reducible exact Below.refl _ _ | with_reducible refine Bs ?_ | with_reducible refine Ba ?_ | with_reducible refine Bd ?_ | with_reducible refine Bn ?_))) b2)) (fun x hx => .inl hx))); (have HB2 := Lib.hid ((HBm.out.below (show Below _ _ _ from by (repeat (first | with_reducible exact Below.refl _ _ | with_reducible refine Bs ?_ | with_reducible refine Ba ?_ | with_reducible refine Bd ?_ | with_reducible refine Bn ?_)))).below b2)); (have BB2 := Lib.hid b2); (obtain ⟨c2_0, c2_1⟩ := k2 (w.heap.size) (.int .i64 p) (.int .i64 q) b2 (by and_intros <;> go_simp)); (have c2_2 : w2.cell? ⟨P, 0, none⟩ = some (.slice (some ⟨g, 0, none⟩) n c) := kc b2 (by go_simp) (by first | omega | (simp; done) | (simp; omega))); (obtain ⟨l2_0, n2_0, m2_0⟩ := lnm (show w.heap.size < w2.heap.size by omega)); (obtain ⟨l2_1, n2_1, m2_1⟩ := lnm (show P < w2.heap.size by omega)); (have R2 := Lib.hid r2); (have R3 := Lib.hid r3); (clear b2 r2 r3); (try go_wp2_with fail)); refine hK.out _ _ ?_ ?_; (focus (first | with_reducible exact True.intro | ((try dsimp only); and_intros <;> first | (go_simp; done) | (go_keep; done)))); (clear hHeld hK K); (intro hHeld); (try simp only [Act.put, List.setIfInBounds_toArray, List.set_cons_zero, List.set_cons_succ]); (refine lexTk 9 (v := ?_) rfl hHeld ?_ (by kernel_rfl) (fun _ _ _ h => h) ?_ ?_; rotate_left 2; (focus rfl); (focus (intro w hSw; (try dsimp only at hSw); first | (go_simp; done) | (go_simp; with_reducible rfl)))); (try simp only [Act.put, List.setIfInBounds_toArray, List.set_cons_zero, List.set_cons_succ]); (refine lexTk 10 (v := ?_) rfl hHeld ?_ (by kernel_rfl) (fun _ _ _ h => h) ?_ ?_; rotate_left 2; (focus rfl); (focus (intro w hSw; (try dsimp only at hSw); first | (go_simp; done) | (go_simp; with_reducible rfl)))); (try simp only [Act.put, List.setIfInBounds_toArray, List.set_cons_zero, List.set_cons_succ]); refine wpAnyH_done (by kernel_rfl) ?_ _
  have r1' : r ≤ n := by have := HN.out; omega
  obtain ⟨i, hmin⟩ : ∃ i : Nat, min (r : Int) ((n : Int) - 1) = (i : Int) := ⟨min r (n - 1), by omega⟩
  rw [hmin]
  have hin : i < n := by omega
  have hir : i ≤ r := by omega
  have hir2 : r < n → i = r := fun hq => by omega
  have hir3 : r = n → i + 1 = n := fun hq => by omega
  obtain ⟨l, hl⟩ := getElem?_ex (l := bs) (k := i) (by rw [HN.out]; exact hin)
  have hm := List.mem_of_getElem? hl
  have hX := Lib.hid (rows_below HP.out HSC.out (i := i) fun j hj => R2.out j (by omega))
  have hY := Lib.hid (show ∀ y ∈ (bs.drop (i + 1)).flatten, oddI (p, q) y ≤ 0 by
    rcases Nat.lt_or_ge r n with hr | hr
    · exact rows_behind HP.out HSC.out hl (R3.out i (by omega) (by rw [HN.out]; exact hin))
    · have := hir3 (by omega)
      rw [List.drop_of_length_le (by rw [HN.out]; omega)]
      intro y hy
      cases hy)
  have HL := Lib.hid hl
  have hl0 := HP.out.some l hm
  have hl32 := HP.out.few l hm
  have HLR := Lib.hid (HP.out.row hm)
  obtain ⟨g2, c2, b, cc, e, _, hgi, hvi, hri, hlc, hcm⟩ := HB2.out.at hl hl0
  have e1 : g = g2 := by injection e with e _ _; injection e with e; injection e
  subst e1
  clear e hl hm hmin r1 R2 R3 hir hir2 hir3
  have HVI := Lib.hid hvi
  have hgf : w2.frozen? ⟨g, i, none⟩ = false := by
    have hrow := HB2.out.row
    rw [HN.out] at hrow
    exact World.ownsRow.frozenAt hrow i
  have HRI := Lib.hid hri
  have hbl : b < w2.heap.size := own_lt hri rfl
  have hbP : b ≠ P := fun e => (List.nodup_cons.1 HB2.out.apart).1 (by rw [← e]; exact mem_blks hvi rfl)
  have hPr := own_pairs (hri) rfl (by omega)
  have HPR := Lib.hid hPr
  have hlpos := List.length_pos_iff.2 hl0
  obtain ⟨n2, hn2⟩ : ∃ n2, l.length = n2 := ⟨_, rfl⟩
  have HN2 := Lib.hid hn2
  rw [hn2] at hgi hlc hl32 HRI HPR HVI hlpos
  have i1 : (0 : Int) ≤ (i : Int) := by omega
  have i2 : (i : Int) < (n : Int) := by omega
  have hgl2 : g < w2.heap.size := by have := S1.out; omega
  have hPl2 : P < w2.heap.size := by have := S1.out; omega
  have hwl2 : w.heap.size < w2.heap.size := by omega
  clear hvi hri hPr hl0 hn2
  go_upto_region 12 with fail
  have hgb : g ≠ b := fun e => by
    have hn2 := (List.nodup_cons.1 HB2.out.apart).2
    have e0 : blks (.slice (some ⟨g, 0, none⟩) n c) vs = g :: vs.filterMap Value.ownBlock := by unfold blks; rw [List.filterMap_cons_some (show Value.ownBlock (.slice (some ⟨g, 0, none⟩) n c) = some g from rfl)]
    rw [e0] at hn2
    exact (List.nodup_cons.1 hn2).1 (List.mem_filterMap.2 ⟨_, List.mem_of_getElem? HVI.out, by rw [e]; rfl⟩)
  refine wp_region_B (T := fun w' => w'.cell? ⟨P, 0, none⟩ = some (.slice (some ⟨g, 0, none⟩) n c) ∧ w'.cell? ⟨g, i, none⟩ = some (.slice (some ⟨b, 0, none⟩) n2 cc) ∧ w'.cell? ⟨w.heap.size, 0, none⟩ = some (.int .i64 p) ∧ w'.cell? ⟨w.heap.size, 1, none⟩ = some (.int .i64 q)) 18 (by kernel_rfl) ?_ (fun hHeld => ?_); (focus (first | with_reducible exact True.intro | ((try dsimp only); and_intros <;> first | (go_simp; done) | (go_keep; done)))); (refine lexTkF 0 (v := ?_) rfl hHeld ?_ (by kernel_rfl) (fun _ _ _ h => h) ?_ ?_; rotate_left 2; (focus rfl); (focus (intro w hSw; (try dsimp only at hSw); first | (go_simp; done) | (go_simp; with_reducible rfl)))); (try simp only [Act.put, List.setIfInBounds_toArray, List.set_cons_zero, List.set_cons_succ]); (refine lexTkF 1 (v := ?_) rfl hHeld ?_ (by kernel_rfl) (fun _ _ _ h => h) ?_ ?_; rotate_left 2; (focus rfl); (focus (intro w hSw; (try dsimp only at hSw); first | (go_simp; done) | (go_simp; with_reducible rfl)))); (try simp only [Act.put, List.setIfInBounds_toArray, List.set_cons_zero, List.set_cons_succ]); (refine lexTkF 2 (v := ?_) rfl hHeld ?_ (by kernel_rfl) (fun _ _ _ h => h) ?_ ?_; rotate_left 2; (focus rfl); (focus (intro w hSw; (try dsimp only at hSw); first | (go_simp; done) | (go_simp; with_reducible rfl)))); (try simp only [Act.put, List.setIfInBounds_toArray, List.set_cons_zero, List.set_cons_succ]); (refine lexTkB 3 #[true, true, true, false, true, false, false, true, true, true, true, true, true, true, true, true, true, true, false, false] (v := ?_) rfl hHeld ?_ (by kernel_rfl) (fun _ _ _ h => h) ?_ ?_; rotate_left 2; (focus rfl); (focus (intro w hSw; (try dsimp only at hSw); first | (go_simp; done) | (go_simp; with_reducible rfl)))); (try simp only [Act.put, List.setIfInBounds_toArray, List.set_cons_zero, List.set_cons_succ]); (refine lexTkF 4 (v := ?_) rfl hHeld ?_ (by kernel_rfl) (fun _ _ _ h => h) ?_ ?_; rotate_left 2; (focus rfl); (focus (intro w hSw; (try dsimp only at hSw); first | (go_simp; done) | (go_simp; with_reducible rfl)))); (try simp only [Act.put, List.setIfInBounds_toArray, List.set_cons_zero, List.set_cons_succ]); (refine lexTkF 5 (v := ?_) rfl hHeld ?_ (by kernel_rfl) (fun _ _ _ h => h) ?_ ?_; rotate_left 2; (focus rfl); (focus (intro w hSw; (try dsimp only at hSw); first | (go_simp; done) | (go_simp; with_reducible rfl)))); (try simp only [Act.put, List.setIfInBounds_toArray, List.set_cons_zero, List.set_cons_succ]); (refine lexTkB 6 #[true, true, true, true, true, true, false, true, true, true, true, true, true, true, true, true, true, true, false, false] (v := ?_) rfl hHeld ?_ (by kernel_rfl) (fun _ _ _ h => h) ?_ ?_; rotate_left 2; (focus rfl); (focus (intro w hSw; (try dsimp only at hSw); first | (go_simp; done) | (go_simp; with_reducible rfl)))); (try simp only [Act.put, List.setIfInBounds_toArray, List.set_cons_zero, List.set_cons_succ]); (refine lexTkF 7 (v := ?_) rfl hHeld ?_ (by kernel_rfl) (fun _ _ _ h => h) ?_ ?_; rotate_left 2; (focus rfl); (focus (intro w hSw; (try dsimp only at hSw); first | (go_simp; done) | (go_simp; with_reducible rfl)))); (try simp only [Act.put, List.setIfInBounds_toArray, List.set_cons_zero, List.set_cons_succ]); (refine lexTkF 8 (v := ?_) rfl hHeld ?_ (by kernel_rfl) (fun _ _ _ h => h) ?_ ?_; rotate_left 2; (focus rfl); (focus (intro w hSw; (try dsimp only at hSw); first | (go_simp; done) | (go_simp; with_reducible rfl)))); (try simp only [Act.put, List.setIfInBounds_toArray, List.set_cons_zero, List.set_cons_succ]); (refine lexTkF 9 (v := ?_) rfl hHeld ?_ (by kernel_rfl) (fun _ _ _ h => h) ?_ ?_; rotate_left 2; (focus rfl); (focus (intro w hSw; (try dsimp only at hSw); first | (go_simp; done) | (go_simp; with_reducible rfl)))); (try simp only [Act.put, List.setIfInBounds_toArray, List.set_cons_zero, List.set_cons_succ]); (refine lexTkB 10 #[true, true, true, true, true, true, true, true, true, true, false, true, false, false, true, false, true, true, false, false] (v := ?_) rfl hHeld ?_ (by kernel_rfl) (fun _ _ _ h => h) ?_ ?_; rotate_left 2; (focus rfl); (focus (intro w hSw; (try dsimp only at hSw); first | (go_simp; done) | (go_simp; with_reducible rfl)))); (try simp only [Act.put, List.setIfInBounds_toArray, List.set_cons_zero, List.set_cons_succ]); (refine lexTkF 11 (v := ?_) rfl hHeld ?_ (by kernel_rfl) (fun _ _ _ h => h) ?_ ?_; rotate_left 2; (focus rfl); (focus (intro w hSw; (try dsimp only at hSw); first | (go_simp; done) | (go_simp; with_reducible rfl)))); (try simp only [Act.put, List.setIfInBounds_toArray, List.set_cons_zero, List.set_cons_succ]); (refine lexTkF 12 (v := ?_) rfl hHeld ?_ (by kernel_rfl) (fun _ _ _ h => h) ?_ ?_; rotate_left 2; (focus rfl); (focus (intro w hSw; (try dsimp only at hSw); first | (go_simp; done) | (go_simp; with_reducible rfl)))); (try simp only [Act.put, List.setIfInBounds_toArray, List.set_cons_zero, List.set_cons_succ]); (refine lexTkB 13 #[true, true, true, true, true, true, true, true, true, true, true, true, true, false, true, false, true, true, false, false] (v := ?_) rfl hHeld ?_ (by kernel_rfl) (fun _ _ _ h => h) ?_ ?_; rotate_left 2; (focus rfl); (focus (intro w hSw; (try dsimp only at hSw); first | (go_simp; done) | (go_simp; with_reducible rfl)))); (try simp only [Act.put, List.setIfInBounds_toArray, List.set_cons_zero, List.set_cons_succ]); (refine lexTkB 14 #[true, true, true, true, true, true, true, true, true, true, true, true, true, true, false, false, true, true, false, false] (v := ?_) rfl hHeld ?_ (by kernel_rfl) (fun _ _ _ h => h) ?_ ?_; rotate_left 2; (focus rfl); (focus (intro w hSw; (try dsimp only at hSw); first | (go_simp; done) | (go_simp; with_reducible rfl)))); (try simp only [Act.put, List.setIfInBounds_toArray, List.set_cons_zero, List.set_cons_succ]); (refine lexTkB 16 #[true, true, true, true, true, true, true, true, true, true, true, true, true, true, true, true, false, false, false, false] (v := ?_) rfl hHeld ?_ (by kernel_rfl) (fun _ _ _ h => h) ?_ ?_; rotate_left 2; (focus rfl); (focus (intro w hSw; (try dsimp only at hSw); first | (go_simp; done) | (go_simp; with_reducible rfl)))); (try simp only [Act.put, List.setIfInBounds_toArray, List.set_cons_zero, List.set_cons_succ]); refine lexHv2B 15 17 rfl rfl ?_ ?_ (by kernel_rfl); (focus ((intro K hK); (go_simp; (go_at_call 81); ((with_reducible refine (place_any _ l p q _ (HPR.out.below (by (repeat (first | with_reducible exact Below.refl _ _ | with_reducible refine Bs ?_ | with_reducible refine Ba ?_ | with_reducible refine Bd ?_ | with_reducible refine Bn ?_)))) HLR.out.2 HSC.out HLR.out.1 (by have := HN2.out; omega)).mono ?_)); (rintro e w3 ⟨k, rfl, q1, q2, q3, b3⟩); (have s3 : w2.heap.size ≤ w3.heap.size := sz b3); (have BB3 := Lib.hid (show Below w2.heap.size w2 w3 from Bc (by (repeat (first | with_reducible exact Below.refl _ _ | with_reducible refine Bs ?_ | with_reducible refine Ba ?_ | with_reducible refine Bd ?_ | with_reducible refine Bn ?_))) b3)); (have HB3 := Lib.hid (HB2.out.below BB3.out)); (have HRI3 := Lib.hid (own_keep HRI.out (fun q _ hq => BB3.out.block q hq))); (have c3_0 : w3.cell? ⟨P, 0, none⟩ = some (.slice (some ⟨g, 0, none⟩) n c) := kc b3 (by go_simp) (by first | omega | (simp; done) | (simp; omega))); (have c3_1 : w3.cell? ⟨g, i, none⟩ = some (.slice (some ⟨b, 0, none⟩) n2 cc) := kc b3 (by go_simp) (by first | omega | (simp; done) | (simp; omega))); (have f3_1 : w3.frozen? ⟨g, i, none⟩ = false := kf b3 (by go_simp) (by first | omega | (simp; done) | (simp; omega))); (obtain ⟨c3_2, c3_3⟩ := k2 (w.heap.size) (.int .i64 p) (.int .i64 q) b3 (by and_intros <;> go_simp)); (obtain ⟨l3_0, n3_0, m3_0⟩ := lnm (show P < w3.heap.size by omega)); (obtain ⟨l3_1, n3_1, m3_1⟩ := lnm (show g < w3.heap.size by omega)); (obtain ⟨l3_2, n3_2, m3_2⟩ := lnm (show w.heap.size < w3.heap.size by omega)); (try have HVB := Lib.hid (show RowAt w3 w2.heap.size 24 #[.int .i64 p, .int .i64 q] from (b3.block w2.heap.size (by simp)).trans (heap_alloc_new _ _))); (have K2 := Lib.hid q2); (have K3 := Lib.hid q3); (rw [HN2.out] at q1); (clear b3 q2 q3); (try go_wp2_with fail)); refine hK.out _ _ ?_ ?_; (focus (first | with_reducible exact True.intro | ((try dsimp only); and_intros <;> first | (go_simp; done) | (go_keep; done)))); (clear hHeld hK K); (intro hHeld); (try simp only [Act.put, List.setIfInBounds_toArray, List.set_cons_zero, List.set_cons_succ]); refine lexHvB 17 rfl ?_ (by kernel_rfl); (intro K hK); (go_simp); refine hK.out _ _ ?_ ?_; (focus (first | with_reducible exact True.intro | ((try dsimp only); and_intros <;> first | (go_simp; done) | (go_keep; done)))); (clear hHeld hK K); (intro hHeld); (try simp only [Act.put, List.setIfInBounds_toArray, List.set_cons_zero, List.set_cons_succ]); refine lexHvE 18 rfl ?_ (by kernel_rfl) (by kernel_rfl); (intro K hK); (go_simp; (go_at_call 85); ((with_reducible refine (insS_any 0 _ n2 k (l.flatMap pairF) _ _ [.int .i64 p, .int .i64 q] (by (repeat (first | with_reducible exact HRI3.out | with_reducible refine own_set ?_ (by first | omega | (simp; done) | (simp; omega)) | with_reducible refine own_drew ?_ | with_reducible refine World.ownsRow.alloc ?_ _ | exact HRI3.out))) q1 (by omega) rfl (by first | exact HVB.out | exact rowAt_new _ _ _) (ne_blk (by omega)) (pair_one p q) (pairF_all (l := l)) (Nat.zero_le _)).mono ?_)); (rintro e w4 ⟨u', rfl, hr4, hg4, hb4⟩); (have hr5 : w4.ownsRow 0 24 2 u' (n2 + 1) ((l.take k ++ [(p, q)] ++ l.drop k).flatMap pairF) := (by rw [← pairF_ins]; exact hr4)); (have hll : (l.take k ++ [(p, q)] ++ l.drop k).length = n2 + 1 := (by have := HN2.out; simp; omega)); (rw [← hll] at hr5); (have hx := BagAt.setRow' (HB3.out.below (by (repeat (first | with_reducible exact Below.refl _ _ | with_reducible refine Bs ?_ | with_reducible refine Ba ?_ | with_reducible refine Bd ?_ | with_reducible refine Bn ?_)))) HVI.out rfl hg4 hr5 hb4 rfl HN.out); (have O4 := Lib.hid ((O2.out.trans (OnlyIn.ofBelow (F := (P :: blks (.slice (some ⟨g, 0, none⟩) n c) vs)) (by (repeat (first | with_reducible exact Below.refl _ _ | with_reducible refine Bs ?_ | with_reducible refine Ba ?_ | with_reducible refine Bd ?_ | with_reducible refine Bn ?_ | with_reducible refine Bt BB3.out ?_)))) (fun x hx => .inl hx)).trans hx.2.1 (fun x hx => .inl hx))); (have F4 := Lib.hid (show ∀ x, x ∈ blks (.slice (some ⟨g, 0, none⟩) n c) (vs.set i u') → x ∈ blks (.slice (some ⟨g, 0, none⟩) n c) vs ∨ w.heap.size ≤ x from fun x h => (hx.2.2 x h).imp id (fun h => Nat.le_trans (by first | omega | (simp; omega)) h))); (have X4 := Lib.hid hx.1); (have HR5 := Lib.hid hr5); (have p4_0 : w4.cell? ⟨P, 0, none⟩ = some (.slice (some ⟨g, 0, none⟩) n c) := gc hg4 (by go_simp) (by first | omega | (simp; omega)) hbP); (have p4_1 : w4.cell? ⟨g, i, none⟩ = some (.slice (some ⟨b, 0, none⟩) n2 cc) := gc hg4 (by go_simp) (by first | omega | (simp; omega)) (Ne.symm hgb)); (have p4_2 : w4.frozen? ⟨g, i, none⟩ = false := gf hg4 (by go_simp) (by first | omega | (simp; omega)) (Ne.symm hgb)); (clear hr4 hr5 hg4 hb4 hx hll); (try go_wp2_with fail)); refine hK.out _ _ ?_; (clear hK K); (try clear hHeld); (try simp only [Act.put, List.setIfInBounds_toArray, List.set_cons_zero, List.set_cons_succ]); refine lexHvE 19 rfl ?_ (by kernel_rfl) (by kernel_rfl); (intro K hK); (go_simp); refine hK.out _ _ ?_; (clear hK K); (try clear hHeld); (try simp only [Act.put, List.setIfInBounds_toArray, List.set_cons_zero, List.set_cons_succ]); refine wpAnyB_done (by kernel_rfl) ?_ _)); rotate_left; (focus ((intro K hK); (go_simp); refine hK.out _ _ ?_ ?_; (focus (first | with_reducible exact True.intro | ((try dsimp only); and_intros <;> first | (go_simp; done) | (go_keep; done)))); (clear hHeld hK K); (intro hHeld); (try simp only [Act.put, List.setIfInBounds_toArray, List.set_cons_zero, List.set_cons_succ]); refine lexHvB 15 rfl ?_ (by kernel_rfl); (intro K hK); (go_simp; (go_at_call 81); ((with_reducible refine (place_any _ l p q _ (HPR.out.below (by (repeat (first | with_reducible exact Below.refl _ _ | with_reducible refine Bs ?_ | with_reducible refine Ba ?_ | with_reducible refine Bd ?_ | with_reducible refine Bn ?_)))) HLR.out.2 HSC.out HLR.out.1 (by have := HN2.out; omega)).mono ?_)); (rintro e w3 ⟨k, rfl, q1, q2, q3, b3⟩); (have s3 : w2.heap.size ≤ w3.heap.size := sz b3); (have BB3 := Lib.hid (show Below w2.heap.size w2 w3 from Bc (by (repeat (first | with_reducible exact Below.refl _ _ | with_reducible refine Bs ?_ | with_reducible refine Ba ?_ | with_reducible refine Bd ?_ | with_reducible refine Bn ?_))) b3)); (have HB3 := Lib.hid (HB2.out.below BB3.out)); (have HRI3 := Lib.hid (own_keep HRI.out (fun q _ hq => BB3.out.block q hq))); (have c3_0 : w3.cell? ⟨P, 0, none⟩ = some (.slice (some ⟨g, 0, none⟩) n c) := kc b3 (by go_simp) (by first | omega | (simp; done) | (simp; omega))); (have c3_1 : w3.cell? ⟨g, i, none⟩ = some (.slice (some ⟨b, 0, none⟩) n2 cc) := kc b3 (by go_simp) (by first | omega | (simp; done) | (simp; omega))); (have f3_1 : w3.frozen? ⟨g, i, none⟩ = false := kf b3 (by go_simp) (by first | omega | (simp; done) | (simp; omega))); (obtain ⟨c3_2, c3_3⟩ := k2 (w.heap.size) (.int .i64 p) (.int .i64 q) b3 (by and_intros <;> go_simp)); (obtain ⟨l3_0, n3_0, m3_0⟩ := lnm (show P < w3.heap.size by omega)); (obtain ⟨l3_1, n3_1, m3_1⟩ := lnm (show g < w3.heap.size by omega)); (obtain ⟨l3_2, n3_2, m3_2⟩ := lnm (show w.heap.size < w3.heap.size by omega)); (try have HVB := Lib.hid (show RowAt w3 w2.heap.size 24 #[.int .i64 p, .int .i64 q] from (b3.block w2.heap.size (by simp)).trans (heap_alloc_new _ _))); (have K2 := Lib.hid q2); (have K3 := Lib.hid q3); (rw [HN2.out] at q1); (clear b3 q2 q3); (try go_wp2_with fail)); refine hK.out _ _ ?_ ?_; (focus (first | with_reducible exact True.intro | ((try dsimp only); and_intros <;> first | (go_simp; done) | (go_keep; done)))); (clear hHeld hK K); (intro hHeld); (try simp only [Act.put, List.setIfInBounds_toArray, List.set_cons_zero, List.set_cons_succ]); refine lexHvE 18 rfl ?_ (by kernel_rfl) (by kernel_rfl); (intro K hK); (go_simp; (go_at_call 85); ((with_reducible refine (insS_any 0 _ n2 k (l.flatMap pairF) _ _ [.int .i64 p, .int .i64 q] (by (repeat (first | with_reducible exact HRI3.out | with_reducible refine own_set ?_ (by first | omega | (simp; done) | (simp; omega)) | with_reducible refine own_drew ?_ | with_reducible refine World.ownsRow.alloc ?_ _ | exact HRI3.out))) q1 (by omega) rfl (by first | exact HVB.out | exact rowAt_new _ _ _) (ne_blk (by omega)) (pair_one p q) (pairF_all (l := l)) (Nat.zero_le _)).mono ?_)); (rintro e w4 ⟨u', rfl, hr4, hg4, hb4⟩); (have hr5 : w4.ownsRow 0 24 2 u' (n2 + 1) ((l.take k ++ [(p, q)] ++ l.drop k).flatMap pairF) := (by rw [← pairF_ins]; exact hr4)); (have hll : (l.take k ++ [(p, q)] ++ l.drop k).length = n2 + 1 := (by have := HN2.out; simp; omega)); (rw [← hll] at hr5); (have hx := BagAt.setRow' (HB3.out.below (by (repeat (first | with_reducible exact Below.refl _ _ | with_reducible refine Bs ?_ | with_reducible refine Ba ?_ | with_reducible refine Bd ?_ | with_reducible refine Bn ?_)))) HVI.out rfl hg4 hr5 hb4 rfl HN.out); (have O4 := Lib.hid ((O2.out.trans (OnlyIn.ofBelow (F := (P :: blks (.slice (some ⟨g, 0, none⟩) n c) vs)) (by (repeat (first | with_reducible exact Below.refl _ _ | with_reducible refine Bs ?_ | with_reducible refine Ba ?_ | with_reducible refine Bd ?_ | with_reducible refine Bn ?_ | with_reducible refine Bt BB3.out ?_)))) (fun x hx => .inl hx)).trans hx.2.1 (fun x hx => .inl hx))); (have F4 := Lib.hid (show ∀ x, x ∈ blks (.slice (some ⟨g, 0, none⟩) n c) (vs.set i u') → x ∈ blks (.slice (some ⟨g, 0, none⟩) n c) vs ∨ w.heap.size ≤ x from fun x h => (hx.2.2 x h).imp id (fun h => Nat.le_trans (by first | omega | (simp; omega)) h))); (have X4 := Lib.hid hx.1); (have HR5 := Lib.hid hr5); (have p4_0 : w4.cell? ⟨P, 0, none⟩ = some (.slice (some ⟨g, 0, none⟩) n c) := gc hg4 (by go_simp) (by first | omega | (simp; omega)) hbP); (have p4_1 : w4.cell? ⟨g, i, none⟩ = some (.slice (some ⟨b, 0, none⟩) n2 cc) := gc hg4 (by go_simp) (by first | omega | (simp; omega)) (Ne.symm hgb)); (have p4_2 : w4.frozen? ⟨g, i, none⟩ = false := gf hg4 (by go_simp) (by first | omega | (simp; omega)) (Ne.symm hgb)); (clear hr4 hr5 hg4 hb4 hx hll); (try go_wp2_with fail)); refine hK.out _ _ ?_; (clear hK K); (try clear hHeld); (try simp only [Act.put, List.setIfInBounds_toArray, List.set_cons_zero, List.set_cons_succ]); refine lexHvE 19 rfl ?_ (by kernel_rfl) (by kernel_rfl); (intro K hK); (go_simp); refine hK.out _ _ ?_; (clear hK K); (try clear hHeld); (try simp only [Act.put, List.setIfInBounds_toArray, List.set_cons_zero, List.set_cons_succ]); refine wpAnyB_done (by kernel_rfl) ?_ _))
  all_goals
    have FI := Lib.hid (flat_ins HP.out HSC.out HL.out hX.out K2.out K3.out hY.out)
    have hfl : (bs.set i (l.take k ++ [(p, q)] ++ l.drop k)).flatten.length = M + 1 := by
      rw [FI.out.2.1.length_eq, List.length_cons, HMM.out]
    have hll : (l.take k ++ [(p, q)] ++ l.drop k).length = n2 + 1 := by have := HN2.out; simp; omega
    have hsh : ∃ b5 cc5, u' = .slice (some ⟨b5, 0, none⟩) (n2 + 1) cc5 ∧ n2 + 1 ≤ cc5 ∧ cc5 ≤ maxLen := by
      rcases HR5.out.2 with ⟨_, h⟩ | ⟨g5, cap5, _, h, _, _, h1, h2, _⟩
      · omega
      · exact ⟨g5, cap5, by rw [h, hll], by omega, h2⟩
    obtain ⟨b5, cc5, rfl, h5a, h5b⟩ := hsh
    have HFL := Lib.hid hfl
    have HLL := Lib.hid hll
    have hP4 := World.block_lt_of_cell? _ _ p4_0
    have hg4 := World.block_lt_of_cell? _ _ p4_1
    dsimp only at hP4 hg4
    clear hfl hll
    by_cases h33 : n2 + 1 ≤ 32
    · have j1 : (n2 : Int) + 1 ≤ 32 := by omega
      go_wp2_with fail
      go_ret
      exact ⟨rfl, _, _, _, by rw [HFL.out]; exact X4.out, bagP_ins HP.out (List.ne_nil_of_length_pos (by have := HLL.out; omega)) (by have := HLL.out; omega) FI.out.1 FI.out.2.2 (by have := HFL.out; omega), FI.out.2.1, O4.out, F4.out⟩
    · obtain rfl : n2 = 32 := by omega
      have j1 : ¬ ((32 : Nat) : Int) + 1 ≤ 32 := by omega
      obtain ⟨L', hL'⟩ : ∃ L', l.take k ++ [(p, q)] ++ l.drop k = L' := ⟨_, rfl⟩
      rw [hL'] at HR5 X4 HLL HFL FI
      clear hL'
      have hLL := HLL.out
      obtain ⟨W4, hW4⟩ : ∃ W, w4.setCell ⟨g, i, none⟩ (.slice (some ⟨b5, 0, none⟩) (32 + 1) cc5) = W := ⟨_, rfl⟩
      have hz4 : W4.heap.size = w4.heap.size := by rw [← hW4]; simp
      have hrow5 : W4.ownsRow 0 24 2 (.slice (some ⟨b5, 0, none⟩) 33 cc5) 33 (L'.flatMap pairF) := by
        have := X4.out.rows i _ L' (by rw [List.getElem?_set_self (by rw [HB2.out.len, HN.out]; exact hin)]) (by rw [List.getElem?_set_self (by rw [HN.out]; exact hin)])
        rw [hLL, hW4] at this
        exact this
      have HR6 := Lib.hid hrow5
      have hb5 : b5 < W4.heap.size := own_lt hrow5 rfl
      have X4' := X4
      rw [hW4] at X4'
      have O4' := O4
      rw [hW4] at O4'
      go_upto_region 16 with fail
      have HZ4 := Lib.hid hz4
      clear hrow5 hW4 hz4 hLL h33
      go_wp2_with (at_make; go_must (refine mkcap rfl _ _ 28 rfl Try.underlying28 eiScore 17 33 rfl rfl (by rfl) (by rfl) (by decide) (by decide) ?_))
      intro w5 cur5 r5 hc5 bb5 z5
      obtain ⟨W6, hW6⟩ : ∃ W, w5.setCells W4.heap.size 0 ((L'.drop 16).flatMap pairF) = W := ⟨_, rfl⟩
      have hd17 : (L'.drop 16).length = 17 := by rw [List.length_drop]; have := HLL.out; omega
      have hdl : ((L'.drop 16).flatMap pairF).length = 34 := by rw [pairF_len, hd17]
      have hrow6 : w5.ownsRow 0 24 2 (.slice (some ⟨b5, 0, none⟩) 33 cc5) 33 (L'.flatMap pairF) := own_keep HR6.out fun q _ hq => bb5.block q hq
      have hcp : ∀ ty o2 l2 c2, o2 = 32 → l2 = 17 → (Builtin.copy_ #[28, 28] ty #[.slice (some ⟨W4.heap.size, 0, none⟩) 17 33, .slice (some ⟨b5, o2, none⟩) l2 c2]).run Try.prog w5 = .ok (goInt (Nat.min l2 17 : Nat)) W6 := by
        rintro ty o2 l2 c2 rfl rfl
        rw [← hW6]
        obtain ⟨ti, hti, _, hsize, _⟩ := eiScore
        refine run_copy_row w5 _ _ ty 24 W4.heap.size 0 17 33 ⟨b5, 32, none⟩ 17 c2 ((L'.drop 16).flatMap pairF) hti Try.underlying28 (by rw [hdl, hsize]; rfl) ?_ ?_ ?_ pairF_all
        · intro j u hj
          have hjl : j < 34 := by have := (List.getElem?_eq_some_iff.1 hj).1; omega
          rw [Addr.add_lit]
          show w5.cell? ⟨b5, 32 + j, none⟩ = _
          rw [World.ownsRow.cellAt hrow6 (32 + j) (by omega), ← hj]
          have := pairF_ins L' 16 (0, 0)
          have hd : (L'.flatMap pairF).drop (16 * 2) = (L'.drop 16).flatMap pairF := pairF_drop L' 16
          rw [← hd, List.getElem?_drop]
        · intro j hj; rw [r5.cell, Array.getElem?_eq_getElem (by omega)]; rfl
        · intro j hj; exact r5.frozen _
      have r6 : RowAt W6 W4.heap.size 24 (ovw cur5 0 ((L'.drop 16).flatMap pairF)) := by rw [← hW6]; exact r5.sets _ _
      have bb6 : Below W4.heap.size W4 W6 := by rw [← hW6]; exact sets_below (Nat.le_refl _) _ _ bb5
      have hup : W6.ownsRow 0 24 2 (.slice (some ⟨W4.heap.size, 0, none⟩) 17 33) 17 ((L'.drop 16).flatMap pairF) := rowAt_own (Nat.zero_le _) r6 (by omega) (by decide) (by rw [ovw_size, hc5]) (by
        apply List.ext_getElem?
        intro j
        rw [List.getElem?_take, Array.getElem?_toList, ovw_get _ _ _ _ (by omega), hdl]
        by_cases hj : j < 34
        · rw [if_pos (by omega), if_neg (by omega), if_pos (by omega), Nat.sub_zero]
        · rw [if_neg (by omega), List.getElem?_eq_none (by omega)])
      have HCP := Lib.hid hcp
      have HUP := Lib.hid hup
      have BB6 := Lib.hid bb6
      have Z6 := Lib.hid (show W6.heap.size = W4.heap.size + 1 by rw [← hW6, sets_size]; exact z5)
      have hnb : ¬ (cc5 = 16) := by omega
      clear hcp hup bb6 bb5 r5 r6 hc5 hW6 hrow6 hdl z5
      go_wp2_with (refine wpList_copy_run rfl _ _ 28 28 rfl rfl rfl (HCP.out _ _ _ _ (by omega) (by omega)) ?_)
      have hx6 := X4'.out.below BB6.out
      have hn6 : (bs.set i L').length = n := by rw [List.length_set]; exact HN.out
      have hu6 : (vs.set i (.slice (some ⟨b5, 0, none⟩) (32 + 1) cc5))[i]? = some (.slice (some ⟨b5, 0, none⟩) 33 cc5) := List.getElem?_set_self (by rw [HB2.out.len, HN.out]; exact hin)
      have hrow6 := hx6.row
      rw [hn6] at hrow6
      have a0 := hx6.c0
      have a1 : W6.cell? ⟨g, i, none⟩ = some (.slice (some ⟨b5, 0, none⟩) 33 cc5) := (World.ownsRow.cellAt hrow6 i (by omega)).trans hu6
      have a2 : W6.frozen? ⟨g, i, none⟩ = false := World.ownsRow.frozenAt hrow6 i
      have hr33 := hx6.rows i _ L' hu6 (List.getElem?_set_self (by rw [HN.out]; exact hin))
      rw [HLL.out] at hr33
      have hr16 : W6.ownsRow 0 24 2 (.slice (some ⟨b5, 0, none⟩) 16 cc5) (L'.take 16).length ((L'.take 16).flatMap pairF) := by
        have := own_prefix (k := 16) hr33 (by omega)
        rw [pairF_take] at this
        rw [show (L'.take 16).length = 16 by rw [List.length_take]; have := HLL.out; omega]
        exact this
      have hx7 := BagAt.setRow' hx6 hu6 rfl (⟨rfl, rfl, rfl, Nat.le_refl _, fun _ _ _ => rfl⟩ : W6.grownBy W6 (some b5)) hr16 (.inl rfl) rfl hn6
      rw [List.set_set, List.set_set] at hx7
      have HX7 := Lib.hid hx7
      have hg6 := World.block_lt_of_cell? _ _ a1
      have hP6 := World.block_lt_of_cell? _ _ a0
      dsimp only at hg6 hP6
      have j2 : (16 : Int) ≤ (cc5 : Int) := by omega
      have a3 := hx6.f0
      have HX6 := Lib.hid hx6
      clear hx6 hx7 hr16 hr33 hrow6 hu6
      refine wp_region_held_drew (S := fun w' => w'.cell? ⟨P, 0, none⟩ = some (.slice (some ⟨g, 0, none⟩) n c)) (by kernel_rfl) ?_ (fun hHeld => ?_); (focus (first | with_reducible exact True.intro | ((try dsimp only); and_intros <;> first | (go_simp; done) | (go_keep; done)))); (refine lexTk 0 (v := ?_) rfl hHeld ?_ (by kernel_rfl) (fun _ _ _ h => h) ?_ ?_; rotate_left 2; (focus rfl); (focus (intro w hSw; (try dsimp only at hSw); first | (go_simp; done) | (go_simp; with_reducible rfl)))); (try simp only [Act.put, List.setIfInBounds_toArray, List.set_cons_zero, List.set_cons_succ]); (refine lexTk 1 (v := ?_) rfl hHeld ?_ (by kernel_rfl) (fun _ _ _ h => h) ?_ ?_; rotate_left 2; (focus rfl); (focus (intro w hSw; (try dsimp only at hSw); first | (go_simp; done) | (go_simp; with_reducible rfl)))); (try simp only [Act.put, List.setIfInBounds_toArray, List.set_cons_zero, List.set_cons_succ]); (refine lexTk 2 (v := ?_) rfl hHeld ?_ (by kernel_rfl) (fun _ _ _ h => h) ?_ ?_; rotate_left 2; (focus rfl); (focus (intro w hSw; (try dsimp only at hSw); first | (go_simp; done) | (go_simp; with_reducible rfl)))); (try simp only [Act.put, List.setIfInBounds_toArray, List.set_cons_zero, List.set_cons_succ]); (refine lexTk 3 (v := ?_) rfl hHeld ?_ (by kernel_rfl) (fun _ _ _ h => h) ?_ ?_; rotate_left 2; (focus rfl); (focus (intro w hSw; (try dsimp only at hSw); first | (go_simp; done) | (go_simp; with_reducible rfl)))); (try simp only [Act.put, List.setIfInBounds_toArray, List.set_cons_zero, List.set_cons_succ]); (refine lexTk 4 (v := ?_) rfl hHeld ?_ (by kernel_rfl) (fun _ _ _ h => h) ?_ ?_; rotate_left 2; (focus rfl); (focus (intro w hSw; (try dsimp only at hSw); first | (go_simp; done) | (go_simp; with_reducible rfl)))); (try simp only [Act.put, List.setIfInBounds_toArray, List.set_cons_zero, List.set_cons_succ]); (refine lexTk 5 (v := ?_) rfl hHeld ?_ (by kernel_rfl) (fun _ _ _ h => h) ?_ ?_; rotate_left 2; (focus rfl); (focus (intro w hSw; (try dsimp only at hSw); first | (go_simp; done) | (go_simp; with_reducible rfl)))); (try simp only [Act.put, List.setIfInBounds_toArray, List.set_cons_zero, List.set_cons_succ]); (refine lexTk 6 (v := ?_) rfl hHeld ?_ (by kernel_rfl) (fun _ _ _ h => h) ?_ ?_; rotate_left 2; (focus rfl); (focus (intro w hSw; (try dsimp only at hSw); first | (go_simp; done) | (go_simp; with_reducible rfl)))); (try simp only [Act.put, List.setIfInBounds_toArray, List.set_cons_zero, List.set_cons_succ]); (refine lexTk 7 (v := ?_) rfl hHeld ?_ (by kernel_rfl) (fun _ _ _ h => h) ?_ ?_; rotate_left 2; (focus rfl); (focus (intro w hSw; (try dsimp only at hSw); first | (go_simp; done) | (go_simp; with_reducible rfl)))); (try simp only [Act.put, List.setIfInBounds_toArray, List.set_cons_zero, List.set_cons_succ]); (refine lexTk 8 (v := ?_) rfl hHeld ?_ (by kernel_rfl) (fun _ _ _ h => h) ?_ ?_; rotate_left 2; (focus rfl); (focus (intro w hSw; (try dsimp only at hSw); first | (go_simp; done) | (go_simp; with_reducible rfl)))); (try simp only [Act.put, List.setIfInBounds_toArray, List.set_cons_zero, List.set_cons_succ]); refine lexHv 9 rfl ?_ (by kernel_rfl); (intro K hK); (go_simp); refine hK.out _ _ ?_ ?_; (focus (first | with_reducible exact True.intro | ((try dsimp only); and_intros <;> first | (go_simp; done) | (go_keep; done)))); (clear hHeld hK K); (intro hHeld); (try simp only [Act.put]); refine wpAnyH_done (by kernel_rfl) ?_ _
      have j3 : IntKind.i64.wrap ((i : Int) + 1) = (i : Int) + 1 := by rw [IntKind.wrap_i64]; omega
      have hlen7 : (bs.set i (L'.take 16)).length = n := by rw [List.length_set]; exact HN.out
      have hx8 : BagAt (((W6.setCell ⟨g, i, none⟩ (.slice (some ⟨b5, 0, none⟩) 16 cc5)).alloc (.cells #[(.slice (some ⟨W4.heap.size, 0, none⟩) 17 33)] 28)).drew) P (.slice (some ⟨g, 0, none⟩) n c) (vs.set i (.slice (some ⟨b5, 0, none⟩) 16 cc5)) (bs.set i (L'.take 16)) (M + 1) := HX7.out.1.below (by (repeat (first | with_reducible exact Below.refl _ _ | with_reducible refine Bs ?_ | with_reducible refine Ba ?_ | with_reducible refine Bd ?_ | with_reducible refine Bn ?_)))
      have hrow8 := hx8.row
      rw [hlen7] at hrow8
      have hq := insB_any 0 (.slice (some ⟨g, 0, none⟩) n c) n (i + 1) (vs.set i (.slice (some ⟨b5, 0, none⟩) 16 cc5)) (((W6.setCell ⟨g, i, none⟩ (.slice (some ⟨b5, 0, none⟩) 16 cc5)).alloc (.cells #[(.slice (some ⟨W4.heap.size, 0, none⟩) 17 33)] 28)).drew) W6.heap.size [(.slice (some ⟨W4.heap.size, 0, none⟩) 17 33)] hrow8 (by omega) (by omega) rfl (show RowAt (((W6.setCell ⟨g, i, none⟩ (.slice (some ⟨b5, 0, none⟩) 16 cc5)).alloc (.cells #[(.slice (some ⟨W4.heap.size, 0, none⟩) 17 33)] 28)).drew) W6.heap.size _ _ by have hrn := rowAt_new (W6.setCell ⟨g, i, none⟩ (.slice (some ⟨b5, 0, none⟩) 16 cc5)) 28 #[(.slice (some ⟨W4.heap.size, 0, none⟩) 17 33)]; rw [show (W6.setCell ⟨g, i, none⟩ (.slice (some ⟨b5, 0, none⟩) 16 cc5)).heap.size = W6.heap.size from by simp] at hrn; exact hrn) (ne_blk (by omega)) (slice_one _ _ _) hx8.one (Nat.zero_le _)
      rw [Int.natCast_add, show ((1 : Nat) : Int) = 1 from rfl] at hq
      have HQ := Lib.hid hq
      have hUg : W4.heap.size ≠ g := fun e => by have := (World.block_lt_of_cell? _ _ X4'.out.c0); have := X4'.out.foot (List.mem_cons.2 (.inr (mem_blks0 (g := g) rfl))); omega
      have hup8 : ((((W6.setCell ⟨g, i, none⟩ (.slice (some ⟨b5, 0, none⟩) 16 cc5)).alloc (.cells #[(.slice (some ⟨W4.heap.size, 0, none⟩) 17 33)] 28)).drew) : World).ownsRow 0 24 2 (.slice (some ⟨W4.heap.size, 0, none⟩) 17 33) (L'.drop 16).length ((L'.drop 16).flatMap pairF) := by
        rw [hd17]
        exact own_at HUP.out fun q hq' => by
          injection hq' with hq'
          subst hq'
          exact ((show Below (W6.setCell ⟨g, i, none⟩ (.slice (some ⟨b5, 0, none⟩) 16 cc5)).heap.size (W6.setCell ⟨g, i, none⟩ (.slice (some ⟨b5, 0, none⟩) 16 cc5)) (((W6.setCell ⟨g, i, none⟩ (.slice (some ⟨b5, 0, none⟩) 16 cc5)).alloc (.cells #[(.slice (some ⟨W4.heap.size, 0, none⟩) 17 33)] 28)).drew) from by (repeat (first | with_reducible exact Below.refl _ _ | with_reducible refine Bs ?_ | with_reducible refine Ba ?_ | with_reducible refine Bd ?_ | with_reducible refine Bn ?_))).block W4.heap.size (by have := Z6.out; simp; omega)).trans (Below.heap_setCell _ _ _ _ hUg)
      have hUn : W4.heap.size ∉ P :: blks (.slice (some ⟨g, 0, none⟩) n c) (vs.set i (.slice (some ⟨b5, 0, none⟩) 16 cc5)) := fun e => by
        rcases List.mem_cons.1 e with e | e
        · have := X4'.out.lt; omega
        · rcases HX7.out.2.2 _ e with e | e
          · have := X4'.out.foot (List.mem_cons.2 (.inr e)); omega
          · have := Z6.out; omega
      have HX8 := Lib.hid hx8
      have HUP8 := Lib.hid hup8
      have HUN := Lib.hid hUn
      clear hx8 hrow8 hq hup8 hUn
      go_upto_region 19 with fail
      go_wp2_with fail
      (with_reducible refine HQ.out.mono ?_)
      rintro e w9 ⟨v9, rfl, hr9, hg9, hb9⟩
      rw [Nat.mul_one] at hr9
      have hg9' : ((((W6.setCell ⟨g, i, none⟩ (.slice (some ⟨b5, 0, none⟩) 16 cc5)).alloc (.cells #[(.slice (some ⟨W4.heap.size, 0, none⟩) 17 33)] 28)).drew) : World).grownBy w9 (some g) := hg9
      obtain ⟨g9, hgb9, hgg⟩ : ∃ g9, v9.ownBlock = some g9 ∧ (g9 = g ∨ ((((W6.setCell ⟨g, i, none⟩ (.slice (some ⟨b5, 0, none⟩) 16 cc5)).alloc (.cells #[(.slice (some ⟨W4.heap.size, 0, none⟩) 17 33)] 28)).drew) : World).heap.size ≤ g9) := by
        rcases hb9 with h | h
        · exact ⟨g, h, .inl rfl⟩
        · exact ⟨_, h, .inr (Nat.le_refl _)⟩
      have hx9 := BagAt.insRow HX8.out (g := g) (c := c) (by rw [hlen7]) HUP8.out rfl HUN.out (k := i + 1) (by rw [hlen7]; omega) hg9' (by rw [hlen7]; exact hr9) hgb9 hgg
      have hsh9 : ∃ q9 c9, v9 = .slice (some ⟨q9, 0, none⟩) (n + 1) c9 := by
        rcases hr9.2 with ⟨_, h⟩ | ⟨q9, c9, _, h, _⟩
        · omega
        · exact ⟨q9, c9, h⟩
      obtain ⟨q9, c9, rfl⟩ := hsh9
      have t0 : w9.cell? ⟨P, 0, none⟩ = some (.slice (some ⟨g, 0, none⟩) n c) := gc hg9' (by go_simp) (by first | omega | (simp; omega)) hgP
      have t1 : w9.frozen? ⟨P, 0, none⟩ = false := gf hg9' (by go_simp) (by first | omega | (simp; omega)) hgP
      have HX9 := Lib.hid hx9
      clear hr9 hg9 hg9' hb9 hx9
      go_wp2_with fail
      go_ret
      have hw4 : w.heap.size ≤ W4.heap.size := O4'.out.size
      have f4 : ∀ x, x ∈ P :: blks (.slice (some ⟨g, 0, none⟩) n c) (vs.set i (.slice (some ⟨b5, 0, none⟩) (32 + 1) cc5)) → x ∈ (P :: blks (.slice (some ⟨g, 0, none⟩) n c) vs) ∨ w.heap.size ≤ x := fun x hx => by
        rcases List.mem_cons.1 hx with rfl | hx
        · exact .inl (by simp)
        · exact (F4.out x hx).imp (fun h => List.mem_cons.2 (.inr h)) id
      have f7 : ∀ x, x ∈ P :: blks (.slice (some ⟨g, 0, none⟩) n c) (vs.set i (.slice (some ⟨b5, 0, none⟩) 16 cc5)) → x ∈ (P :: blks (.slice (some ⟨g, 0, none⟩) n c) vs) ∨ w.heap.size ≤ x := fun x hx => by
        rcases List.mem_cons.1 hx with rfl | hx
        · exact .inl (by simp)
        · rcases HX7.out.2.2 x hx with h | h
          · exact f4 x (List.mem_cons.2 (.inr h))
          · have := Z6.out; exact .inr (by omega)
      have o6 := O4'.out.trans (OnlyIn.ofBelow (F := (P :: blks (.slice (some ⟨g, 0, none⟩) n c) vs)) BB6.out) (fun x hx => .inl hx)
      have o7 := o6.trans HX7.out.2.1 f4
      have o8 := o7.trans (OnlyIn.ofBelow (F := (P :: blks (.slice (some ⟨g, 0, none⟩) n c) vs)) (show Below (W6.setCell ⟨g, i, none⟩ (.slice (some ⟨b5, 0, none⟩) 16 cc5)).heap.size (W6.setCell ⟨g, i, none⟩ (.slice (some ⟨b5, 0, none⟩) 16 cc5)) (((W6.setCell ⟨g, i, none⟩ (.slice (some ⟨b5, 0, none⟩) 16 cc5)).alloc (.cells #[(.slice (some ⟨W4.heap.size, 0, none⟩) 17 33)] 28)).drew) from by (repeat (first | with_reducible exact Below.refl _ _ | with_reducible refine Bs ?_ | with_reducible refine Ba ?_ | with_reducible refine Bd ?_ | with_reducible refine Bn ?_)))) (fun x hx => .inl hx)
      have o9 := o8.trans HX9.out.2.1 f7
      refine ⟨rfl, .slice (some ⟨q9, 0, none⟩) (n + 1) c9, (vs.set i (.slice (some ⟨b5, 0, none⟩) 16 cc5)).take (i + 1) ++ [(.slice (some ⟨W4.heap.size, 0, none⟩) 17 33)] ++ (vs.set i (.slice (some ⟨b5, 0, none⟩) 16 cc5)).drop (i + 1), _, ?_, bagP_split HP.out (h := 16) (l' := L') (by rw [HN.out]; exact hin) (by omega) (by have := HLL.out; omega) (by omega) (by have := HLL.out; omega) FI.out.1 FI.out.2.2 (by have := HFL.out; omega), ?_, o9, ?_⟩
      · rw [split_flat (by rw [HN.out]; exact hin), HFL.out]
        exact HX9.out.1
      · rw [split_flat (by rw [HN.out]; exact hin)]
        exact FI.out.2.1
      · intro x hx
        rcases HX9.out.2.2 x hx with h | h | h
        · rcases f7 x (List.mem_cons.2 (.inr h)) with h | h
          · rcases List.mem_cons.1 h with h | h
            · subst h
              exact absurd hx (List.nodup_cons.1 HX9.out.1.apart).1
            · exact .inl h
          · exact .inr h
        · exact .inr (by omega)
        · exact .inr (by have := o8.size; omega)
end Go.Proofs.Ytjmjnkilgoelbaa
