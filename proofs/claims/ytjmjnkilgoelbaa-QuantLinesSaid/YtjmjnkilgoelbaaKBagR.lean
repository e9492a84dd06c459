/-
  BagR: Walks of the reference's Add and Drop.
-/
import Derived.Test.YtjmjnkilgoelbaaJ3a
import Derived.Test.YtjmjnkilgoelbaaJ0b
namespace Go.Proofs.Ytjmjnkilgoelbaa
open Go.RowKit

theorem appPairs_step {P : Program} {ops : Array Oper} {o : Oper} {a : Act} {K : Act → World → Prop} {Q : Exit → Act → World → Prop} {E : Prop} (hgd : o.guard = none) (s x : Operand) (t : TypeId)
    (ho : o.op = .call { callee := .builtin .append, args := #[s, x], argTypes := #[t, t] })
    {e : TypeId} {z : Value} {bytes : Nat} (ht : P.underlying t = some (.slice e)) (hE : EI P e z 2 bytes)
    (base : Nat) {v : Value} {n : Nat} {xs : List Value} {W : World} {vx : Value} {l : List (Int × Int)} (hs : a.eval s = v) (hown : W.ownsRow base e 2 v n xs)
    (hx : a.eval x = vx) (hl : PairsR W vx l) (hbytes : (n + l.length) * bytes ≤ 140737488355328) (hbase : base ≤ W.heap.size)
    (h : ∀ v' w', w'.ownsRow base e 2 v' (n + l.length) (xs ++ l.flatMap pairF) → Below base W w' → (∀ q, q < W.heap.size → v.ownBlock ≠ some q → w'.heap[q]? = W.heap[q]?) → K (a.put o.dst v') w') :
    if Region.wanted o (yielded ops a.tmps) = true then o.wp P a W K Q else E := by
  have hw : Region.wanted o (yielded ops a.tmps) = true := by unfold Region.wanted; rw [hgd]
  rw [if_pos hw]
  obtain ⟨i, hi, hz, hsize, hby, hzs, hsz, hbp⟩ := hE
  have h63 : n + l.length ≤ 140737488355328 := Nat.le_trans (Nat.le_mul_of_pos_right _ hbp) hbytes
  obtain ⟨ad, c, rfl, g1, g2, g3, h4⟩ := hl
  rcases ad with _ | ad
  · have hl0 : l = [] := by
      cases l with
      | nil => rfl
      | cons x l => obtain ⟨b, o, e, _⟩ := h4 0 x rfl; cases e
    subst hl0
    have hrun : (Builtin.append_ #[t, t] o.type #[v, .slice none 0 c]).run P W = .ok v W := by
      rcases hown.2 with ⟨rfl, rfl⟩ | ⟨g, cap, cur, rfl, _, _, hnc, _⟩
      · simp [Builtin.append_, run_underlying ht, sizeOf, typeInfo, hi, Builtin.lenOf, Builtin.firstCells]
      · simp [Builtin.append_, run_underlying ht, sizeOf, typeInfo, hi, Builtin.lenOf, Builtin.firstCells, hnc, storeCells]
    unfold Oper.wp execOp
    simp only [ho, resolve, invoke, builtin, Sem.run_bind, Sem.run_pure, Result.andThen_ok, List.map_toArray, List.map_cons, List.map_nil, hs, hx, List.length_nil, hrun]
    exact h v W (by simpa using hown) (Below.refl _ _) fun _ _ _ => rfl
  · obtain ⟨v', w', hrun, h2, h3, _⟩ := run_append_own_at (P := P) W base t o.type e i z 2 bytes ht hi hz hsize hby hzs hsz v n xs hown ad l.length c (l.flatMap pairF) (pairF_len l) (by
      intro j u hu
      have hjl : j < l.length * 2 := by rw [← pairF_len]; exact (List.getElem?_eq_some_iff.1 hu).1
      obtain ⟨p, hp⟩ := getElem?_ex (l := l) (k := j / 2) (by omega)
      obtain ⟨r0, r1⟩ := pairF_at l (j / 2) p hp
      obtain ⟨b, o, e, _, c0, c1⟩ := h4 (j / 2) p hp
      injection e with e
      subst e
      have hadd : (⟨b, o, none⟩ : Addr).add j = ⟨b, o + j, none⟩ := by unfold Addr.add; split <;> simp_all
      rw [hadd]
      rcases Nat.mod_two_eq_zero_or_one j with hm | hm
      · have ej : j / 2 * 2 = j := by omega
        rw [ej] at r0 c0
        rw [c0, ← hu, r0]
      · have ej : j / 2 * 2 + 1 = j := by omega
        rw [ej] at r1
        rw [Nat.add_assoc, ej] at c1
        rw [c1, ← hu, r1]) (by intro u hu; obtain ⟨y, rfl⟩ := pairF_one hu; rfl) (by unfold maxLen; omega) hbytes hbase
    unfold Oper.wp execOp
    simp only [ho, resolve, invoke, builtin, Sem.run_bind, Sem.run_pure, Result.andThen_ok, List.map_toArray, List.map_cons, List.map_nil, hs, hx, hrun]
    exact h v' w' h2 ((Below.refl _ _).grown h3 hbase fun k hk => (hown.lt k hk).1) (fun q hq hne => h3.block q hq (fun h => hne h.symm))

/-- The first place at which a score may be put in. -/
theorem ins_at {l : List (Int × Int)} {s : Int × Int} (h : Scores l) (hs : scoreB s = true) {k : Nat} (hk : k ≤ l.length) (h1 : ∀ j, j < k → geB l s j = false) (h2 : k < l.length → geB l s k = true) : insS l s = l.take k ++ [s] ++ l.drop k := by
  refine (ins_same h hs ?_ ?_).symm
  · have hm := geB_mono h.all hs h.sort
    unfold SortedS
    have hso := h.sort
    unfold SortedS at hso
    rw [← List.take_append_drop k l, List.pairwise_append] at hso
    rw [List.append_assoc, List.singleton_append, List.pairwise_append, List.pairwise_cons]
    refine ⟨hso.1, ⟨fun y hy => ?_, hso.2.1⟩, fun x hx y hy => ?_⟩
    · obtain ⟨j, hj⟩ := List.getElem?_of_mem hy
      rw [List.getElem?_drop] at hj
      have hjl := (List.getElem?_eq_some_iff.1 hj).1
      exact geB_yes (hm k (k + j) (by omega) hjl (h2 (by omega))) hj
    · rcases List.mem_cons.1 hy with rfl | hy
      · obtain ⟨j, hj⟩ := List.getElem?_of_mem hx
        rw [List.getElem?_take] at hj
        split at hj
        · exact geB_no (h1 j (by assumption)) hj
        · cases hj
      · exact hso.2.2 x hx y hy
  · rw [List.append_assoc, List.singleton_append]
    refine List.perm_middle.trans ?_
    rw [List.take_append_drop]

set_option maxRecDepth 100000 in
set_option maxHeartbeats 4000000 in
theorem radd_any (a : Option Addr) (n c : Nat) (l : List (Int × Int)) (p q : Int) (w : World) (hl : PairsR w (.slice a n c) l) (hn : l.length = n) (h : Scores l) :
    Calls Try.prog 76 #[.slice a n c, .agg #[.int .i64 p, .int .i64 q]] w fun e w' => ∃ v', e = .returned (.tuple #[v', .int .i64 (putE l (p, q))]) ∧ PairsR w' v' (putS l (p, q)) ∧ Below w.heap.size w w' ∧ (v' = .slice a n c ∨ Fresh w.heap.size v') := by
  have HS := Lib.hid (fun W => ris13_any p q W)
  have HL := Lib.hid hl
  have HN := Lib.hid hn
  have HSC := Lib.hid h
  have h4 := h.most
  rw [hn] at h4
  have hnc : n ≤ c := by have := hl.capN; omega
  have hnc2 : c ≤ 9223372036854775807 := by have := hl.capN; omega
  cases hs : scoreB (p, q) with
  | false =>
    have HE := Lib.hid (show putE l (p, q) = 130 by unfold putE; rw [hs]; rfl)
    have HV := Lib.hid (show putS l (p, q) = l by unfold putS; rw [HE.out]; rfl)
    rw [HE.out, HV.out]
    rw [hs] at HS
    clear hl hn h hs
    go_enter Try.func76, Try.ntmps76
    go_wp2_with fail
    (with_reducible refine (HS.out _).mono ?_); rintro e w1 ⟨rfl, b1⟩; have s1 : w.heap.size + 1 ≤ w1.heap.size := sz b1; have B1 := Lib.hid (Bc (B := w.heap.size) (a := w) (by (repeat (first | with_reducible exact Below.refl _ _ | with_reducible refine Bs ?_ | with_reducible refine Ba ?_ | with_reducible refine Bd ?_ | with_reducible refine Bn ?_))) b1); clear b1
    go_wp2_with fail
    go_ret2
    exact ⟨_, rfl, HL.out.below (by (repeat (first | with_reducible exact Below.refl _ _ | with_reducible refine Bs ?_ | with_reducible refine Ba ?_ | with_reducible refine Bd ?_ | with_reducible refine Bn ?_ | with_reducible refine Bt B1.out ?_))), B1.out, .inl rfl⟩
  | true =>
    rw [hs] at HS
    have HSB := Lib.hid hs
    by_cases hm : 4096 ≤ n
    · have HE := Lib.hid (show putE l (p, q) = 3 by unfold putE; rw [hs, if_pos rfl, if_pos (by omega)])
      have HV := Lib.hid (show putS l (p, q) = l by unfold putS; rw [HE.out]; rfl)
      rw [HE.out, HV.out]
      clear hl hn h hs
      have i0 : (4096 : Int) ≤ (n : Int) := by omega
      go_enter Try.func76, Try.ntmps76
      go_wp2_with fail
      (with_reducible refine (HS.out _).mono ?_); rintro e w1 ⟨rfl, b1⟩; have s1 : w.heap.size + 1 ≤ w1.heap.size := sz b1; have B1 := Lib.hid (Bc (B := w.heap.size) (a := w) (by (repeat (first | with_reducible exact Below.refl _ _ | with_reducible refine Bs ?_ | with_reducible refine Ba ?_ | with_reducible refine Bd ?_ | with_reducible refine Bn ?_))) b1); clear b1
      go_wp2_with fail
      go_ret2
      exact ⟨_, rfl, HL.out.below (by (repeat (first | with_reducible exact Below.refl _ _ | with_reducible refine Bs ?_ | with_reducible refine Ba ?_ | with_reducible refine Bd ?_ | with_reducible refine Bn ?_ | with_reducible refine Bt B1.out ?_))), B1.out, .inl rfl⟩
    · have HE := Lib.hid (show putE l (p, q) = 0 by unfold putE; rw [hs, if_pos rfl, if_neg (by omega)])
      have HV := Lib.hid (show putS l (p, q) = insS l (p, q) by unfold putS; rw [if_pos HE.out])
      rw [HE.out, HV.out]
      have hqb := of_decide_eq_true hs
      dsimp only at hqb
      have HOD := Lib.hid (fun r s W (h1 : scoreB (r, s) = true) => rodder_any r s p q W (scoreB_is.1 h1).2.1 (by have := (scoreB_is.1 h1).1; omega) hqb.2.1 (by omega))
      have i0 : ¬ (4096 : Int) ≤ (n : Int) := by omega
      have i9 : n ≤ 4095 := by omega
      clear hl hn h hs hm hqb
      go_enter Try.func76, Try.ntmps76
      go_wp2_with fail
      (with_reducible refine (HS.out _).mono ?_); rintro e w1 ⟨rfl, b1⟩; have s1 : w.heap.size + 1 ≤ w1.heap.size := sz b1; have B1 := Lib.hid (Bc (B := w.heap.size) (a := w) (by (repeat (first | with_reducible exact Below.refl _ _ | with_reducible refine Bs ?_ | with_reducible refine Ba ?_ | with_reducible refine Bd ?_ | with_reducible refine Bn ?_))) b1); obtain ⟨c1_0, c1_1⟩ := k2 (w.heap.size) (.int .i64 p) (.int .i64 q) b1 (by and_intros <;> go_simp); obtain ⟨l1_0, n1_0, m1_0⟩ := lnm (show w.heap.size < w1.heap.size by omega); clear b1
      go_wp2_with fail
      go_loopw [6] (fun kk wr => ∃ k : Nat, kk = .int .i64 k ∧ k ≤ n ∧ (∀ j, j < k → geB l (p, q) j = false) ∧ Below w.heap.size w wr ∧ wr.cell? ⟨w.heap.size, 0, none⟩ = some (.int .i64 p) ∧ wr.cell? ⟨w.heap.size, 1, none⟩ = some (.int .i64 q)) (fun kk _ => n - (intOf kk).toNat)
      case atStart => exact ⟨0, rfl, by omega, fun j hj => by omega, B1.out, by go_simp, by go_simp⟩
      case round =>
        obtain ⟨k, rfl, hk, hge, hbr, t0, t1⟩ := hrel
        have HGE := Lib.hid hge
        have BR := Lib.hid hbr
        have hzr := World.block_lt_of_cell? _ _ t0
        dsimp only at hzr
        by_cases hkn : k < n
        · obtain ⟨⟨x, y⟩, hx⟩ := getElem?_ex (l := l) (k := k) (by rw [HN.out]; exact hkn)
          obtain ⟨b, o, rfl, hb1, _, _⟩ := HL.out.cells hx
          obtain ⟨_, hc0, hc1⟩ := (HL.out.below hbr).at hx
          have HO := Lib.hid (fun W => HOD.out x y W (allS_mem HSC.out.all (List.mem_of_getElem? hx)))
          have HG := Lib.hid (geB_some (s := (p, q)) hx)
          have i1 : (0 : Int) ≤ (k : Int) := by omega
          have i2 : (k : Int) < (n : Int) := by omega
          have hbr1 : b < wr.heap.size := by have := hbr.size; omega
          clear hx hge hbr
          dsimp only at hc0 hc1
          obtain ⟨R, hR⟩ : ∃ R, oddI (x, y) (p, q) = R := ⟨_, rfl⟩
          rw [hR] at HO HG
          clear hR
          by_cases hR : R < 0
          · have HG1 := Lib.hid (show ∀ j, j < k + 1 → geB l (p, q) j = false from fun j hj => by
              rcases Nat.lt_or_ge j k with h | h
              · exact HGE.out j h
              · rw [show j = k by omega, HG.out, decide_eq_false_iff_not]
                omega)
            clear HGE HG
            go_wp2_with fail
            refine wp_region_held_drew (S := fun w' => w'.cell? ⟨b, o + k * 2, none⟩ = some (.int .i64 x) ∧ w'.cell? ⟨b, o + k * 2 + 1, none⟩ = some (.int .i64 y) ∧ w'.cell? ⟨w.heap.size, 0, none⟩ = some (.int .i64 p) ∧ w'.cell? ⟨w.heap.size, 1, none⟩ = some (.int .i64 q)) (by kernel_rfl) ?_ (fun hHeld => ?_); (focus (first | with_reducible exact True.intro | ((try dsimp only); and_intros <;> first | (go_simp; done) | (go_keep; done)))); (refine lexTk 0 (v := ?_) rfl hHeld ?_ (by kernel_rfl) (fun _ _ _ h => h) ?_ ?_; rotate_left 2; (focus rfl); (focus (intro w hSw; (try dsimp only at hSw); first | (go_simp; done) | (go_simp; with_reducible rfl)))); (try simp only [Act.put, List.setIfInBounds_toArray, List.set_cons_zero, List.set_cons_succ]); (refine lexTk 1 (v := ?_) rfl hHeld ?_ (by kernel_rfl) (fun _ _ _ h => h) ?_ ?_; rotate_left 2; (focus rfl); (focus (intro w hSw; (try dsimp only at hSw); first | (go_simp; done) | (go_simp; with_reducible rfl)))); (try simp only [Act.put, List.setIfInBounds_toArray, List.set_cons_zero, List.set_cons_succ]); (refine lexTk 2 (v := ?_) rfl hHeld ?_ (by kernel_rfl) (fun _ _ _ h => h) ?_ ?_; rotate_left 2; (focus rfl); (focus (intro w hSw; (try dsimp only at hSw); first | (go_simp; done) | (go_simp; with_reducible rfl)))); (try simp only [Act.put, List.setIfInBounds_toArray, List.set_cons_zero, List.set_cons_succ]); (refine lexTk 3 (v := ?_) rfl hHeld ?_ (by kernel_rfl) (fun _ _ _ h => h) ?_ ?_; rotate_left 2; (focus rfl); (focus (intro w hSw; (try dsimp only at hSw); first | (go_simp; done) | (go_simp; with_reducible rfl)))); (try simp only [Act.put, List.setIfInBounds_toArray, List.set_cons_zero, List.set_cons_succ]); (refine lexTk 4 (v := ?_) rfl hHeld ?_ (by kernel_rfl) (fun _ _ _ h => h) ?_ ?_; rotate_left 2; (focus rfl); (focus (intro w hSw; (try dsimp only at hSw); first | (go_simp; done) | (go_simp; with_reducible rfl)))); (try simp only [Act.put, List.setIfInBounds_toArray, List.set_cons_zero, List.set_cons_succ]); (first | (refine lexTk 5 (v := ?_) rfl hHeld ?_ (by kernel_rfl) (fun _ _ _ h => h) ?_ ?_; rotate_left 2; (focus rfl); (focus (intro w hSw; (try dsimp only at hSw); first | (go_simp; done) | (go_simp; with_reducible rfl)))) | refine lexSk 5 rfl hHeld ?_ (by kernel_rfl) (fun _ _ _ h => h) (by rfl)); (try simp only [Act.put, List.setIfInBounds_toArray, List.set_cons_zero, List.set_cons_succ]); (first | (refine lexTk 6 (v := ?_) rfl hHeld ?_ (by kernel_rfl) (fun _ _ _ h => h) ?_ ?_; rotate_left 2; (focus rfl); (focus (intro w hSw; (try dsimp only at hSw); first | (go_simp; done) | (go_simp; with_reducible rfl)))) | refine lexSk 6 rfl hHeld ?_ (by kernel_rfl) (fun _ _ _ h => h) (by rfl)); (try simp only [Act.put, List.setIfInBounds_toArray, List.set_cons_zero, List.set_cons_succ]); (first | (refine lexTk 7 (v := ?_) rfl hHeld ?_ (by kernel_rfl) (fun _ _ _ h => h) ?_ ?_; rotate_left 2; (focus rfl); (focus (intro w hSw; (try dsimp only at hSw); first | (go_simp; done) | (go_simp; with_reducible rfl)))) | refine lexSk 7 rfl hHeld ?_ (by kernel_rfl) (fun _ _ _ h => h) (by rfl)); (try simp only [Act.put, List.setIfInBounds_toArray, List.set_cons_zero, List.set_cons_succ]); (first | (refine lexTk 8 (v := ?_) rfl hHeld ?_ (by kernel_rfl) (fun _ _ _ h => h) ?_ ?_; rotate_left 2; (focus rfl); (focus (intro w hSw; (try dsimp only at hSw); first | (go_simp; done) | (go_simp; with_reducible rfl)))) | refine lexSk 8 rfl hHeld ?_ (by kernel_rfl) (fun _ _ _ h => h) (by rfl)); (try simp only [Act.put, List.setIfInBounds_toArray, List.set_cons_zero, List.set_cons_succ]); (first | (refine lexTk 9 (v := ?_) rfl hHeld ?_ (by kernel_rfl) (fun _ _ _ h => h) ?_ ?_; rotate_left 2; (focus rfl); (focus (intro w hSw; (try dsimp only at hSw); first | (go_simp; done) | (go_simp; with_reducible rfl)))) | refine lexSk 9 rfl hHeld ?_ (by kernel_rfl) (fun _ _ _ h => h) (by rfl)); (try simp only [Act.put, List.setIfInBounds_toArray, List.set_cons_zero, List.set_cons_succ]); refine lexHv 10 rfl ?_ (by kernel_rfl); (intro K hK); (go_simp; go_at_call 26; (with_reducible refine (HO.out _).mono ?_); rintro e w2 ⟨rfl, b2⟩; have s2 : w.heap.size + 1 ≤ w2.heap.size := sz b2; have B2 := Lib.hid (Bc (B := w.heap.size) (a := w) (by (repeat (first | with_reducible exact Below.refl _ _ | with_reducible refine Bs ?_ | with_reducible refine Ba ?_ | with_reducible refine Bd ?_ | with_reducible refine Bn ?_ | with_reducible refine Bt BR.out ?_))) b2); have c2_0 : w2.cell? ⟨b, o + k * 2, none⟩ = some (.int .i64 x) := kc b2 (by go_simp) (by first | omega | (simp; done) | (simp; omega)); have c2_1 : w2.cell? ⟨b, o + k * 2 + 1, none⟩ = some (.int .i64 y) := kc b2 (by go_simp) (by first | omega | (simp; done) | (simp; omega)); obtain ⟨c2_2, c2_3⟩ := k2 (w.heap.size) (.int .i64 p) (.int .i64 q) b2 (by and_intros <;> go_simp); obtain ⟨l2_0, n2_0, m2_0⟩ := lnm (show b < w2.heap.size by omega); obtain ⟨l2_1, n2_1, m2_1⟩ := lnm (show w.heap.size < w2.heap.size by omega); clear b2; (try go_wp2_with fail)); refine hK.out _ _ ?_ ?_; (focus (first | with_reducible exact True.intro | ((try dsimp only); and_intros <;> first | (go_simp; done) | (go_keep; done)))); (clear hHeld hK K); (intro hHeld); (try simp only [Act.put, List.setIfInBounds_toArray, List.set_cons_zero, List.set_cons_succ]); (first | (refine lexTk 11 (v := ?_) rfl hHeld ?_ (by kernel_rfl) (fun _ _ _ h => h) ?_ ?_; rotate_left 2; (focus rfl); (focus (intro w hSw; (try dsimp only at hSw); first | (go_simp; done) | (go_simp; with_reducible rfl)))) | refine lexSk 11 rfl hHeld ?_ (by kernel_rfl) (fun _ _ _ h => h) (by rfl)); (try simp only [Act.put, List.setIfInBounds_toArray, List.set_cons_zero, List.set_cons_succ]); (refine lexTk 12 (v := ?_) rfl hHeld ?_ (by kernel_rfl) (fun _ _ _ h => h) ?_ ?_; rotate_left 2; (focus rfl); (focus (intro w hSw; (try dsimp only at hSw); first | (go_simp; done) | (go_simp; with_reducible rfl)))); (try simp only [Act.put, List.setIfInBounds_toArray, List.set_cons_zero, List.set_cons_succ]); refine wpAnyH_done (by kernel_rfl) ?_ _
            go_wp2_with fail
            refine ⟨⟨k + 1, by go_num, by omega, HG1.out, by (repeat (first | with_reducible exact Below.refl _ _ | with_reducible refine Bs ?_ | with_reducible refine Ba ?_ | with_reducible refine Bd ?_ | with_reducible refine Bn ?_ | with_reducible refine Bt B2.out ?_ | with_reducible refine Bt BR.out ?_)), by go_simp, by go_simp⟩, by simp [intOf]; omega⟩
          · have HM := Lib.hid (show insS l (p, q) = l.take k ++ [(p, q)] ++ l.drop k from ins_at HSC.out HSB.out (by rw [HN.out]; omega) HGE.out fun _ => by rw [HG.out, decide_eq_true_eq]; omega)
            clear HGE HG
            go_wp2_with fail
            refine wp_region_held_drew (S := fun w' => w'.cell? ⟨b, o + k * 2, none⟩ = some (.int .i64 x) ∧ w'.cell? ⟨b, o + k * 2 + 1, none⟩ = some (.int .i64 y) ∧ w'.cell? ⟨w.heap.size, 0, none⟩ = some (.int .i64 p) ∧ w'.cell? ⟨w.heap.size, 1, none⟩ = some (.int .i64 q)) (by kernel_rfl) ?_ (fun hHeld => ?_); (focus (first | with_reducible exact True.intro | ((try dsimp only); and_intros <;> first | (go_simp; done) | (go_keep; done)))); (refine lexTk 0 (v := ?_) rfl hHeld ?_ (by kernel_rfl) (fun _ _ _ h => h) ?_ ?_; rotate_left 2; (focus rfl); (focus (intro w hSw; (try dsimp only at hSw); first | (go_simp; done) | (go_simp; with_reducible rfl)))); (try simp only [Act.put, List.setIfInBounds_toArray, List.set_cons_zero, List.set_cons_succ]); (refine lexTk 1 (v := ?_) rfl hHeld ?_ (by kernel_rfl) (fun _ _ _ h => h) ?_ ?_; rotate_left 2; (focus rfl); (focus (intro w hSw; (try dsimp only at hSw); first | (go_simp; done) | (go_simp; with_reducible rfl)))); (try simp only [Act.put, List.setIfInBounds_toArray, List.set_cons_zero, List.set_cons_succ]); (refine lexTk 2 (v := ?_) rfl hHeld ?_ (by kernel_rfl) (fun _ _ _ h => h) ?_ ?_; rotate_left 2; (focus rfl); (focus (intro w hSw; (try dsimp only at hSw); first | (go_simp; done) | (go_simp; with_reducible rfl)))); (try simp only [Act.put, List.setIfInBounds_toArray, List.set_cons_zero, List.set_cons_succ]); (refine lexTk 3 (v := ?_) rfl hHeld ?_ (by kernel_rfl) (fun _ _ _ h => h) ?_ ?_; rotate_left 2; (focus rfl); (focus (intro w hSw; (try dsimp only at hSw); first | (go_simp; done) | (go_simp; with_reducible rfl)))); (try simp only [Act.put, List.setIfInBounds_toArray, List.set_cons_zero, List.set_cons_succ]); (refine lexTk 4 (v := ?_) rfl hHeld ?_ (by kernel_rfl) (fun _ _ _ h => h) ?_ ?_; rotate_left 2; (focus rfl); (focus (intro w hSw; (try dsimp only at hSw); first | (go_simp; done) | (go_simp; with_reducible rfl)))); (try simp only [Act.put, List.setIfInBounds_toArray, List.set_cons_zero, List.set_cons_succ]); (first | (refine lexTk 5 (v := ?_) rfl hHeld ?_ (by kernel_rfl) (fun _ _ _ h => h) ?_ ?_; rotate_left 2; (focus rfl); (focus (intro w hSw; (try dsimp only at hSw); first | (go_simp; done) | (go_simp; with_reducible rfl)))) | refine lexSk 5 rfl hHeld ?_ (by kernel_rfl) (fun _ _ _ h => h) (by rfl)); (try simp only [Act.put, List.setIfInBounds_toArray, List.set_cons_zero, List.set_cons_succ]); (first | (refine lexTk 6 (v := ?_) rfl hHeld ?_ (by kernel_rfl) (fun _ _ _ h => h) ?_ ?_; rotate_left 2; (focus rfl); (focus (intro w hSw; (try dsimp only at hSw); first | (go_simp; done) | (go_simp; with_reducible rfl)))) | refine lexSk 6 rfl hHeld ?_ (by kernel_rfl) (fun _ _ _ h => h) (by rfl)); (try simp only [Act.put, List.setIfInBounds_toArray, List.set_cons_zero, List.set_cons_succ]); (first | (refine lexTk 7 (v := ?_) rfl hHeld ?_ (by kernel_rfl) (fun _ _ _ h => h) ?_ ?_; rotate_left 2; (focus rfl); (focus (intro w hSw; (try dsimp only at hSw); first | (go_simp; done) | (go_simp; with_reducible rfl)))) | refine lexSk 7 rfl hHeld ?_ (by kernel_rfl) (fun _ _ _ h => h) (by rfl)); (try simp only [Act.put, List.setIfInBounds_toArray, List.set_cons_zero, List.set_cons_succ]); (first | (refine lexTk 8 (v := ?_) rfl hHeld ?_ (by kernel_rfl) (fun _ _ _ h => h) ?_ ?_; rotate_left 2; (focus rfl); (focus (intro w hSw; (try dsimp only at hSw); first | (go_simp; done) | (go_simp; with_reducible rfl)))) | refine lexSk 8 rfl hHeld ?_ (by kernel_rfl) (fun _ _ _ h => h) (by rfl)); (try simp only [Act.put, List.setIfInBounds_toArray, List.set_cons_zero, List.set_cons_succ]); (first | (refine lexTk 9 (v := ?_) rfl hHeld ?_ (by kernel_rfl) (fun _ _ _ h => h) ?_ ?_; rotate_left 2; (focus rfl); (focus (intro w hSw; (try dsimp only at hSw); first | (go_simp; done) | (go_simp; with_reducible rfl)))) | refine lexSk 9 rfl hHeld ?_ (by kernel_rfl) (fun _ _ _ h => h) (by rfl)); (try simp only [Act.put, List.setIfInBounds_toArray, List.set_cons_zero, List.set_cons_succ]); refine lexHv 10 rfl ?_ (by kernel_rfl); (intro K hK); (go_simp; go_at_call 26; (with_reducible refine (HO.out _).mono ?_); rintro e w2 ⟨rfl, b2⟩; have s2 : w.heap.size + 1 ≤ w2.heap.size := sz b2; have B2 := Lib.hid (Bc (B := w.heap.size) (a := w) (by (repeat (first | with_reducible exact Below.refl _ _ | with_reducible refine Bs ?_ | with_reducible refine Ba ?_ | with_reducible refine Bd ?_ | with_reducible refine Bn ?_ | with_reducible refine Bt BR.out ?_))) b2); have c2_0 : w2.cell? ⟨b, o + k * 2, none⟩ = some (.int .i64 x) := kc b2 (by go_simp) (by first | omega | (simp; done) | (simp; omega)); have c2_1 : w2.cell? ⟨b, o + k * 2 + 1, none⟩ = some (.int .i64 y) := kc b2 (by go_simp) (by first | omega | (simp; done) | (simp; omega)); obtain ⟨c2_2, c2_3⟩ := k2 (w.heap.size) (.int .i64 p) (.int .i64 q) b2 (by and_intros <;> go_simp); obtain ⟨l2_0, n2_0, m2_0⟩ := lnm (show b < w2.heap.size by omega); obtain ⟨l2_1, n2_1, m2_1⟩ := lnm (show w.heap.size < w2.heap.size by omega); clear b2; (try go_wp2_with fail)); refine hK.out _ _ ?_ ?_; (focus (first | with_reducible exact True.intro | ((try dsimp only); and_intros <;> first | (go_simp; done) | (go_keep; done)))); (clear hHeld hK K); (intro hHeld); (try simp only [Act.put, List.setIfInBounds_toArray, List.set_cons_zero, List.set_cons_succ]); (first | (refine lexTk 11 (v := ?_) rfl hHeld ?_ (by kernel_rfl) (fun _ _ _ h => h) ?_ ?_; rotate_left 2; (focus rfl); (focus (intro w hSw; (try dsimp only at hSw); first | (go_simp; done) | (go_simp; with_reducible rfl)))) | refine lexSk 11 rfl hHeld ?_ (by kernel_rfl) (fun _ _ _ h => h) (by rfl)); (try simp only [Act.put, List.setIfInBounds_toArray, List.set_cons_zero, List.set_cons_succ]); (refine lexTk 12 (v := ?_) rfl hHeld ?_ (by kernel_rfl) (fun _ _ _ h => h) ?_ ?_; rotate_left 2; (focus rfl); (focus (intro w hSw; (try dsimp only at hSw); first | (go_simp; done) | (go_simp; with_reducible rfl)))); (try simp only [Act.put, List.setIfInBounds_toArray, List.set_cons_zero, List.set_cons_succ]); refine wpAnyH_done (by kernel_rfl) ?_ _
            have s2' := B2.out.size
            have BW := Lib.hid (show Below w.heap.size w w2 from by (repeat (first | with_reducible exact Below.refl _ _ | with_reducible refine Bs ?_ | with_reducible refine Ba ?_ | with_reducible refine Bd ?_ | with_reducible refine Bn ?_ | with_reducible refine Bt B2.out ?_ | with_reducible refine Bt BR.out ?_)))
            have q5 : ¬ c = k := by omega
            have q6 : k ≤ c := by omega
            have q7 : (k : Int) ≤ (n : Int) := by omega
            have q8 : w.heap.size + 1 ≤ w2.heap.size := by omega
            have q9 : b ≠ w2.heap.size := by omega
            go_wp2_with (at_builtin; go_must (refine appPairs rfl _ _ 28 rfl Try.underlying28 eiScore w2.heap.size (by rfl) (own0S w2) (by rfl) ((HL.out.takeN (k := k) (by rw [HN.out]; omega)).below (by (repeat (first | with_reducible exact Below.refl _ _ | with_reducible refine Bs ?_ | with_reducible refine Ba ?_ | with_reducible refine Bd ?_ | with_reducible refine Bn ?_ | with_reducible refine Bt BW.out ?_)))) (by have := HN.out; simp; omega) (by simp) ?_))
            intro v5 w5 hown5 hb5 _
            have B5 := Lib.hid (show Below w2.heap.size w2 w5 from below_tr (by (repeat (first | with_reducible exact Below.refl _ _ | with_reducible refine Bs ?_ | with_reducible refine Ba ?_ | with_reducible refine Bd ?_ | with_reducible refine Bn ?_))) hb5)
            have OWN5 := Lib.hid hown5
            have s5 : w2.heap.size ≤ w5.heap.size := by have := hb5.size; simp at this; omega
            have t0 := (B5.out.cell (p := ⟨w.heap.size, 0, none⟩) (by show w.heap.size < _; omega)).trans (show w2.cell? _ = some (.int .i64 p) by go_simp)
            have t1 := (B5.out.cell (p := ⟨w.heap.size, 1, none⟩) (by show w.heap.size < _; omega)).trans (show w2.cell? _ = some (.int .i64 q) by go_simp)
            clear hown5 hb5
            go_wp2_with (at_builtin; go_must (refine app1 rfl _ _ 28 rfl Try.underlying28 eiScore w2.heap.size (by rfl) OWN5.out (by rfl) rfl (by simp [Value.oneCell']) (by have := HN.out; simp; omega) s5 ?_))
            intro v6 w6 hown6 hb6 _
            have B6 := Lib.hid (show Below w2.heap.size w2 w6 from below_tr B5.out hb6)
            have OWN6 := Lib.hid hown6
            have s6 : w2.heap.size ≤ w6.heap.size := by have := hb6.size; omega
            clear hown6 hb6
            go_wp2_with (at_builtin; go_must (refine appPairs rfl _ _ 28 rfl Try.underlying28 eiScore w2.heap.size (by rfl) OWN6.out (by rfl) ((HL.out.dropN (k := k) (by rw [HN.out]; omega)).below (below_tr BW.out (B6.out.mono (by omega)))) (by have := HN.out; simp; omega) s6 ?_))
            intro v7 w7 hown7 hb7 _
            have B7 := Lib.hid (show Below w2.heap.size w2 w7 from below_tr B6.out hb7)
            have P7 := Lib.hid (show PairsR w7 v7 (insS l (p, q)) from by
              rw [HM.out]
              have h := hown7
              exact own_pairs (by simpa [pairF] using h) (by have := HN.out; simp; omega) (by have := HN.out; simp; omega))
            have FR := Lib.hid (Fresh.own hown7)
            clear hown7 hb7
            go_wp2_with fail
            go_ret2
            exact ⟨_, rfl, P7.out, below_tr BW.out (B7.out.mono (by omega)), .inr (FR.out.mono (by omega))⟩
        · obtain rfl : k = n := by omega
          have HM := Lib.hid (show insS l (p, q) = l.take k ++ [(p, q)] ++ l.drop k from ins_at HSC.out HSB.out (by rw [HN.out]; omega) HGE.out fun h => by rw [HN.out] at h; omega)
          have HD := Lib.hid (show l.drop k = [] from List.drop_of_length_le (by rw [HN.out]; omega))
          have m2 : ¬ (k : Int) < (k : Int) := by omega
          clear hge hbr
          go_wp2_with fail
          refine wp_region_held_drew (S := fun w' => w'.cell? ⟨w.heap.size, 0, none⟩ = some (.int .i64 p) ∧ w'.cell? ⟨w.heap.size, 1, none⟩ = some (.int .i64 q)) (by kernel_rfl) ?_ (fun hHeld => ?_); (focus (first | with_reducible exact True.intro | ((try dsimp only); and_intros <;> first | (go_simp; done) | (go_keep; done)))); (refine lexTk 0 (v := ?_) rfl hHeld ?_ (by kernel_rfl) (fun _ _ _ h => h) ?_ ?_; rotate_left 2; (focus rfl); (focus (intro w hSw; (try dsimp only at hSw); first | (go_simp; done) | (go_simp; with_reducible rfl)))); (try simp only [Act.put, List.setIfInBounds_toArray, List.set_cons_zero, List.set_cons_succ]); (refine lexTk 1 (v := ?_) rfl hHeld ?_ (by kernel_rfl) (fun _ _ _ h => h) ?_ ?_; rotate_left 2; (focus rfl); (focus (intro w hSw; (try dsimp only at hSw); first | (go_simp; done) | (go_simp; with_reducible rfl)))); (try simp only [Act.put, List.setIfInBounds_toArray, List.set_cons_zero, List.set_cons_succ]); (refine lexTk 2 (v := ?_) rfl hHeld ?_ (by kernel_rfl) (fun _ _ _ h => h) ?_ ?_; rotate_left 2; (focus rfl); (focus (intro w hSw; (try dsimp only at hSw); first | (go_simp; done) | (go_simp; with_reducible rfl)))); (try simp only [Act.put, List.setIfInBounds_toArray, List.set_cons_zero, List.set_cons_succ]); (refine lexTk 3 (v := ?_) rfl hHeld ?_ (by kernel_rfl) (fun _ _ _ h => h) ?_ ?_; rotate_left 2; (focus rfl); (focus (intro w hSw; (try dsimp only at hSw); first | (go_simp; done) | (go_simp; with_reducible rfl)))); (try simp only [Act.put, List.setIfInBounds_toArray, List.set_cons_zero, List.set_cons_succ]); (refine lexTk 4 (v := ?_) rfl hHeld ?_ (by kernel_rfl) (fun _ _ _ h => h) ?_ ?_; rotate_left 2; (focus rfl); (focus (intro w hSw; (try dsimp only at hSw); first | (go_simp; done) | (go_simp; with_reducible rfl)))); (try simp only [Act.put, List.setIfInBounds_toArray, List.set_cons_zero, List.set_cons_succ]); (first | (refine lexTk 5 (v := ?_) rfl hHeld ?_ (by kernel_rfl) (fun _ _ _ h => h) ?_ ?_; rotate_left 2; (focus rfl); (focus (intro w hSw; (try dsimp only at hSw); first | (go_simp; done) | (go_simp; with_reducible rfl)))) | refine lexSk 5 rfl hHeld ?_ (by kernel_rfl) (fun _ _ _ h => h) (by rfl)); (try simp only [Act.put, List.setIfInBounds_toArray, List.set_cons_zero, List.set_cons_succ]); (first | (refine lexTk 6 (v := ?_) rfl hHeld ?_ (by kernel_rfl) (fun _ _ _ h => h) ?_ ?_; rotate_left 2; (focus rfl); (focus (intro w hSw; (try dsimp only at hSw); first | (go_simp; done) | (go_simp; with_reducible rfl)))) | refine lexSk 6 rfl hHeld ?_ (by kernel_rfl) (fun _ _ _ h => h) (by rfl)); (try simp only [Act.put, List.setIfInBounds_toArray, List.set_cons_zero, List.set_cons_succ]); (first | (refine lexTk 7 (v := ?_) rfl hHeld ?_ (by kernel_rfl) (fun _ _ _ h => h) ?_ ?_; rotate_left 2; (focus rfl); (focus (intro w hSw; (try dsimp only at hSw); first | (go_simp; done) | (go_simp; with_reducible rfl)))) | refine lexSk 7 rfl hHeld ?_ (by kernel_rfl) (fun _ _ _ h => h) (by rfl)); (try simp only [Act.put, List.setIfInBounds_toArray, List.set_cons_zero, List.set_cons_succ]); (first | (refine lexTk 8 (v := ?_) rfl hHeld ?_ (by kernel_rfl) (fun _ _ _ h => h) ?_ ?_; rotate_left 2; (focus rfl); (focus (intro w hSw; (try dsimp only at hSw); first | (go_simp; done) | (go_simp; with_reducible rfl)))) | refine lexSk 8 rfl hHeld ?_ (by kernel_rfl) (fun _ _ _ h => h) (by rfl)); (try simp only [Act.put, List.setIfInBounds_toArray, List.set_cons_zero, List.set_cons_succ]); (first | (refine lexTk 9 (v := ?_) rfl hHeld ?_ (by kernel_rfl) (fun _ _ _ h => h) ?_ ?_; rotate_left 2; (focus rfl); (focus (intro w hSw; (try dsimp only at hSw); first | (go_simp; done) | (go_simp; with_reducible rfl)))) | refine lexSk 9 rfl hHeld ?_ (by kernel_rfl) (fun _ _ _ h => h) (by rfl)); (try simp only [Act.put, List.setIfInBounds_toArray, List.set_cons_zero, List.set_cons_succ]); refine lexSk 10 rfl hHeld ?_ (by kernel_rfl) (fun _ _ _ h => h) (by rfl); (try simp only [Act.put, List.setIfInBounds_toArray, List.set_cons_zero, List.set_cons_succ]); (first | (refine lexTk 11 (v := ?_) rfl hHeld ?_ (by kernel_rfl) (fun _ _ _ h => h) ?_ ?_; rotate_left 2; (focus rfl); (focus (intro w hSw; (try dsimp only at hSw); first | (go_simp; done) | (go_simp; with_reducible rfl)))) | refine lexSk 11 rfl hHeld ?_ (by kernel_rfl) (fun _ _ _ h => h) (by rfl)); (try simp only [Act.put, List.setIfInBounds_toArray, List.set_cons_zero, List.set_cons_succ]); (refine lexTk 12 (v := ?_) rfl hHeld ?_ (by kernel_rfl) (fun _ _ _ h => h) ?_ ?_; rotate_left 2; (focus rfl); (focus (intro w hSw; (try dsimp only at hSw); first | (go_simp; done) | (go_simp; with_reducible rfl)))); (try simp only [Act.put, List.setIfInBounds_toArray, List.set_cons_zero, List.set_cons_succ]); refine wpAnyH_done (by kernel_rfl) ?_ _
          have BW := Lib.hid (show Below w.heap.size w wr from BR.out)
          have q6 : k ≤ c := by omega
          have q7 : (k : Int) ≤ (c : Int) := by omega
          have q8 : w.heap.size + 1 ≤ wr.heap.size := by omega
          go_wp2_with (at_builtin; go_must (refine appPairs rfl _ _ 28 rfl Try.underlying28 eiScore wr.heap.size (by rfl) (own0S wr.drew) (by rfl) ((HL.out.takeN (k := k) (by rw [HN.out]; omega)).below (by (repeat (first | with_reducible exact Below.refl _ _ | with_reducible refine Bs ?_ | with_reducible refine Ba ?_ | with_reducible refine Bd ?_ | with_reducible refine Bn ?_ | with_reducible refine Bt BW.out ?_)))) (by have := HN.out; simp; omega) (by simp) ?_))
          intro v5 w5 hown5 hb5 _
          have B5 := Lib.hid (show Below wr.heap.size wr w5 from below_tr (by (repeat (first | with_reducible exact Below.refl _ _ | with_reducible refine Bs ?_ | with_reducible refine Ba ?_ | with_reducible refine Bd ?_ | with_reducible refine Bn ?_))) hb5)
          have OWN5 := Lib.hid hown5
          have s5 : wr.heap.size ≤ w5.heap.size := by have := hb5.size; simp at this; omega
          have t0 := (B5.out.cell (p := ⟨w.heap.size, 0, none⟩) (by show w.heap.size < _; omega)).trans (show wr.cell? _ = some (.int .i64 p) by go_simp)
          have t1 := (B5.out.cell (p := ⟨w.heap.size, 1, none⟩) (by show w.heap.size < _; omega)).trans (show wr.cell? _ = some (.int .i64 q) by go_simp)
          clear hown5 hb5
          go_wp2_with (at_builtin; go_must (refine app1 rfl _ _ 28 rfl Try.underlying28 eiScore wr.heap.size (by rfl) OWN5.out (by rfl) rfl (by simp [Value.oneCell']) (by have := HN.out; simp; omega) s5 ?_))
          intro v6 w6 hown6 hb6 _
          have B6 := Lib.hid (show Below wr.heap.size wr w6 from below_tr B5.out hb6)
          have OWN6 := Lib.hid hown6
          have s6 : wr.heap.size ≤ w6.heap.size := by have := hb6.size; omega
          clear hown6 hb6
          by_cases hck : c = k
          all_goals
            go_wp2_with (at_builtin; go_must (refine appPairs rfl _ _ 28 rfl Try.underlying28 eiScore wr.heap.size (by rfl) OWN6.out (by rfl) (show PairsR _ _ (l.drop k) from by rw [HD.out]; exact pairs_nil' _ _ _ _ (by omega) (by omega)) (by have := HN.out; simp; omega) s6 ?_))
            intro v7 w7 hown7 hb7 _
            have B7 := Lib.hid (show Below wr.heap.size wr w7 from below_tr B6.out hb7)
            have P7 := Lib.hid (show PairsR w7 v7 (insS l (p, q)) from by
              rw [HM.out]
              have h := hown7
              exact own_pairs (by simpa [pairF] using h) (by have := HN.out; simp; omega) (by have := HN.out; simp; omega))
            have FR := Lib.hid (Fresh.own hown7)
            clear hown7 hb7
            go_wp2_with fail
            go_ret2
            exact ⟨_, rfl, P7.out, below_tr BW.out (B7.out.mono (by omega)), .inr (FR.out.mono (by omega))⟩

/-- The first place of a score. -/
theorem erase_at {s : Int × Int} : ∀ {l : List (Int × Int)} {k : Nat}, (∀ j x, j < k → l[j]? = some x → x ≠ s) → l[k]? = some s → s ∈ l ∧ l.erase s = l.take k ++ l.drop (k + 1)
  | [], k, _, h => by simp at h
  | x :: l, 0, _, h => by
    obtain rfl : x = s := by simpa using h
    simp
  | x :: l, k + 1, h1, h => by
    have hx : x ≠ s := h1 0 x (by omega) rfl
    obtain ⟨h3, h4⟩ := erase_at (l := l) (k := k) (fun j y hj hy => h1 (j + 1) y (by omega) (by simpa using hy)) (by simpa using h)
    refine ⟨List.mem_cons.2 (.inr h3), ?_⟩
    rw [List.erase_cons_tail (by simpa using hx), h4]
    rfl

set_option maxRecDepth 100000 in
set_option maxHeartbeats 4000000 in
theorem rdrop_any (a : Option Addr) (n c : Nat) (l : List (Int × Int)) (p q : Int) (w : World) (hl : PairsR w (.slice a n c) l) (hn : l.length = n) (h : Scores l) :
    Calls Try.prog 77 #[.slice a n c, .agg #[.int .i64 p, .int .i64 q]] w fun e w' => ∃ v', e = .returned (.tuple #[v', .int .i64 (takE l (p, q))]) ∧ PairsR w' v' (takS l (p, q)) ∧ Below w.heap.size w w' ∧ (v' = .slice a n c ∨ Fresh w.heap.size v') := by
  have HS := Lib.hid (fun W => ris13_any p q W)
  have HL := Lib.hid hl
  have HN := Lib.hid hn
  have h4 := h.most
  rw [hn] at h4
  have hnc : n ≤ c := by have := hl.capN; omega
  have hnc2 : c ≤ 9223372036854775807 := by have := hl.capN; omega
  cases hs : scoreB (p, q) with
  | false =>
    have HE := Lib.hid (show takE l (p, q) = 130 by unfold takE; rw [hs]; rfl)
    have HV := Lib.hid (show takS l (p, q) = l by unfold takS; rw [HE.out]; rfl)
    rw [HE.out, HV.out]
    rw [hs] at HS
    clear hl hn h hs
    go_enter Try.func77, Try.ntmps77
    go_wp2_with fail
    (with_reducible refine (HS.out _).mono ?_); rintro e w1 ⟨rfl, b1⟩; have s1 : w.heap.size + 1 ≤ w1.heap.size := sz b1; have B1 := Lib.hid (Bc (B := w.heap.size) (a := w) (by (repeat (first | with_reducible exact Below.refl _ _ | with_reducible refine Bs ?_ | with_reducible refine Ba ?_ | with_reducible refine Bd ?_ | with_reducible refine Bn ?_))) b1); clear b1
    go_wp2_with fail
    go_ret2
    exact ⟨_, rfl, HL.out.below (by (repeat (first | with_reducible exact Below.refl _ _ | with_reducible refine Bs ?_ | with_reducible refine Ba ?_ | with_reducible refine Bd ?_ | with_reducible refine Bn ?_ | with_reducible refine Bt B1.out ?_))), B1.out, .inl rfl⟩
  | true =>
    rw [hs] at HS
    have HSB := Lib.hid hs
    clear hl hn h hs
    obtain ⟨E, hE⟩ : ∃ E, takE l (p, q) = E := ⟨_, rfl⟩
    obtain ⟨V, hV⟩ : ∃ V, takS l (p, q) = V := ⟨_, rfl⟩
    rw [hE, hV]
    have HE := Lib.hid hE
    have HV := Lib.hid hV
    clear hE hV
    go_enter Try.func77, Try.ntmps77
    go_wp2_with fail
    (with_reducible refine (HS.out _).mono ?_); rintro e w1 ⟨rfl, b1⟩; have s1 : w.heap.size + 1 ≤ w1.heap.size := sz b1; have B1 := Lib.hid (Bc (B := w.heap.size) (a := w) (by (repeat (first | with_reducible exact Below.refl _ _ | with_reducible refine Bs ?_ | with_reducible refine Ba ?_ | with_reducible refine Bd ?_ | with_reducible refine Bn ?_))) b1); obtain ⟨c1_0, c1_1⟩ := k2 (w.heap.size) (.int .i64 p) (.int .i64 q) b1 (by and_intros <;> go_simp); obtain ⟨l1_0, n1_0, m1_0⟩ := lnm (show w.heap.size < w1.heap.size by omega); clear b1
    go_wp2_with fail
    go_loopw [6] (fun kk wr => ∃ k : Nat, kk = .int .i64 k ∧ k ≤ n ∧ (∀ j x, j < k → l[j]? = some x → x ≠ (p, q)) ∧ Below w1.heap.size w1 wr) (fun kk _ => n - (intOf kk).toNat)
    case atStart => exact ⟨0, rfl, by omega, fun j x hj => by omega, Below.refl _ _⟩
    case round =>
      obtain ⟨k, rfl, hk, hge, hbr⟩ := hrel
      have HGE := Lib.hid hge
      have BR := Lib.hid hbr
      have BW := Lib.hid (show Below w.heap.size w wr from below_tr B1.out (hbr.mono (by omega)))
      have t0 : wr.cell? ⟨w.heap.size, 0, none⟩ = some (.int .i64 p) := kc hbr c1_0 (by omega)
      have t1 : wr.cell? ⟨w.heap.size, 1, none⟩ = some (.int .i64 q) := kc hbr c1_1 (by omega)
      have hzr : w.heap.size < wr.heap.size := by have := hbr.size; omega
      by_cases hkn : k < n
      · obtain ⟨⟨x, y⟩, hx⟩ := getElem?_ex (l := l) (k := k) (by rw [HN.out]; exact hkn)
        obtain ⟨b, o, rfl, hb1, _, _⟩ := HL.out.cells hx
        obtain ⟨_, hc0, hc1⟩ := (HL.out.below BW.out).at hx
        have HX := Lib.hid hx
        have i1 : (0 : Int) ≤ (k : Int) := by omega
        have i2 : (k : Int) < (n : Int) := by omega
        have hbr1 : b < wr.heap.size := by have := BW.out.size; omega
        clear hx hge hbr
        dsimp only at hc0 hc1
        by_cases e0 : (x, y) = (p, q)
        · injection e0 with e1 e2
          subst e1 e2
          obtain ⟨hmem, hera⟩ := erase_at (l := l) HGE.out HX.out
          have HE2 := Lib.hid (show E = 0 by rw [← HE.out]; unfold takE; rw [HSB.out, if_pos rfl, if_pos hmem])
          have HV2 := Lib.hid (show V = l.take k ++ l.drop (k + 1) by rw [← HV.out, ← hera]; unfold takS; rw [HE.out, HE2.out]; rfl)
          clear hmem hera
          have i3 : (0 : Int) ≤ (k : Int) + 1 := by omega
          have i4 : (k : Int) + 1 ≤ (n : Int) := by omega
          have i5 : IntKind.i64.wrap ((k : Int) + 1) = (k : Int) + 1 := by rw [IntKind.wrap_i64]; omega
          have i6 : ((k : Int) + 1).toNat = k + 1 := by omega
          have i7 : (k : Int) ≤ (c : Int) := by omega
          have q6 : k ≤ c := by omega
          go_wp2_with fail
          refine wp_region_held_drew (S := fun w' => w'.cell? ⟨b, o + k * 2, none⟩ = some (.int .i64 x) ∧ w'.cell? ⟨b, o + k * 2 + 1, none⟩ = some (.int .i64 y) ∧ w'.cell? ⟨w.heap.size, 0, none⟩ = some (.int .i64 x) ∧ w'.cell? ⟨w.heap.size, 1, none⟩ = some (.int .i64 y)) (by kernel_rfl) ?_ (fun hHeld => ?_); (focus (first | with_reducible exact True.intro | ((try dsimp only); and_intros <;> first | (go_simp; done) | (go_keep; done)))); (refine lexTk 0 (v := ?_) rfl hHeld ?_ (by kernel_rfl) (fun _ _ _ h => h) ?_ ?_; rotate_left 2; (focus rfl); (focus (intro w hSw; (try dsimp only at hSw); first | (go_simp; done) | (go_simp; with_reducible rfl)))); (try simp only [Act.put, List.setIfInBounds_toArray, List.set_cons_zero, List.set_cons_succ]); (refine lexTk 1 (v := ?_) rfl hHeld ?_ (by kernel_rfl) (fun _ _ _ h => h) ?_ ?_; rotate_left 2; (focus rfl); (focus (intro w hSw; (try dsimp only at hSw); first | (go_simp; done) | (go_simp; with_reducible rfl)))); (try simp only [Act.put, List.setIfInBounds_toArray, List.set_cons_zero, List.set_cons_succ]); (refine lexTk 2 (v := ?_) rfl hHeld ?_ (by kernel_rfl) (fun _ _ _ h => h) ?_ ?_; rotate_left 2; (focus rfl); (focus (intro w hSw; (try dsimp only at hSw); first | (go_simp; done) | (go_simp; with_reducible rfl)))); (try simp only [Act.put, List.setIfInBounds_toArray, List.set_cons_zero, List.set_cons_succ]); (refine lexTk 3 (v := ?_) rfl hHeld ?_ (by kernel_rfl) (fun _ _ _ h => h) ?_ ?_; rotate_left 2; (focus rfl); (focus (intro w hSw; (try dsimp only at hSw); first | (go_simp; done) | (go_simp; with_reducible rfl)))); (try simp only [Act.put, List.setIfInBounds_toArray, List.set_cons_zero, List.set_cons_succ]); (refine lexTk 4 (v := ?_) rfl hHeld ?_ (by kernel_rfl) (fun _ _ _ h => h) ?_ ?_; rotate_left 2; (focus rfl); (focus (intro w hSw; (try dsimp only at hSw); first | (go_simp; done) | (go_simp; with_reducible rfl)))); (try simp only [Act.put, List.setIfInBounds_toArray, List.set_cons_zero, List.set_cons_succ]); (refine lexTk 5 (v := ?_) rfl hHeld ?_ (by kernel_rfl) (fun _ _ _ h => h) ?_ ?_; rotate_left 2; (focus rfl); (focus (intro w hSw; (try dsimp only at hSw); first | (go_simp; done) | (go_simp; with_reducible rfl)))); (try simp only [Act.put, List.setIfInBounds_toArray, List.set_cons_zero, List.set_cons_succ]); refine wpAnyH_done (by kernel_rfl) ?_ _
          go_wp2_with fail
          by_cases hck : c = k + 1
          · subst hck
            have i8 : (k : Int) ≤ (k : Int) + 1 := by omega
            refine wp_region_held_drew (S := fun w' => True) (by kernel_rfl) ?_ (fun hHeld => ?_); (focus (first | with_reducible exact True.intro | ((try dsimp only); and_intros <;> first | (go_simp; done) | (go_keep; done)))); (refine lexTk 1 (v := ?_) rfl hHeld ?_ (by kernel_rfl) (fun _ _ _ h => h) ?_ ?_; rotate_left 2; (focus rfl); (focus (intro w hSw; (try dsimp only at hSw); first | (go_simp; done) | (go_simp; with_reducible rfl)))); (try simp only [Act.put, List.setIfInBounds_toArray, List.set_cons_zero, List.set_cons_succ]); (refine lexTk 2 (v := ?_) rfl hHeld ?_ (by kernel_rfl) (fun _ _ _ h => h) ?_ ?_; rotate_left 2; (focus rfl); (focus (intro w hSw; (try dsimp only at hSw); first | (go_simp; done) | (go_simp; with_reducible rfl)))); (try simp only [Act.put, List.setIfInBounds_toArray, List.set_cons_zero, List.set_cons_succ]); (refine lexTk 3 (v := ?_) rfl hHeld ?_ (by kernel_rfl) (fun _ _ _ h => h) ?_ ?_; rotate_left 2; (focus rfl); (focus (intro w hSw; (try dsimp only at hSw); first | (go_simp; done) | (go_simp; with_reducible rfl)))); (try simp only [Act.put, List.setIfInBounds_toArray, List.set_cons_zero, List.set_cons_succ]); (refine lexTk 5 (v := ?_) rfl hHeld ?_ (by kernel_rfl) (fun _ _ _ h => h) ?_ ?_; rotate_left 2; (focus rfl); (focus (intro w hSw; (try dsimp only at hSw); first | (go_simp; done) | (go_simp; with_reducible rfl)))); (try simp only [Act.put, List.setIfInBounds_toArray, List.set_cons_zero, List.set_cons_succ]); (refine lexTk 6 (v := ?_) rfl hHeld ?_ (by kernel_rfl) (fun _ _ _ h => h) ?_ ?_; rotate_left 2; (focus rfl); (focus (intro w hSw; (try dsimp only at hSw); first | (go_simp; done) | (go_simp; with_reducible rfl)))); (try simp only [Act.put, List.setIfInBounds_toArray, List.set_cons_zero, List.set_cons_succ]); (refine lexTk 7 (v := ?_) rfl hHeld ?_ (by kernel_rfl) (fun _ _ _ h => h) ?_ ?_; rotate_left 2; (focus rfl); (focus (intro w hSw; (try dsimp only at hSw); first | (go_simp; done) | (go_simp; with_reducible rfl)))); (try simp only [Act.put, List.setIfInBounds_toArray, List.set_cons_zero, List.set_cons_succ]); (refine lexTk 8 (v := ?_) rfl hHeld ?_ (by kernel_rfl) (fun _ _ _ h => h) ?_ ?_; rotate_left 2; (focus rfl); (focus (intro w hSw; (try dsimp only at hSw); first | (go_simp; done) | (go_simp; with_reducible rfl)))); (try simp only [Act.put, List.setIfInBounds_toArray, List.set_cons_zero, List.set_cons_succ]); refine lexHv 0 rfl ?_ (by kernel_rfl); (intro K hK); (go_simp); refine hK.out _ _ ?_ ?_; (focus (first | with_reducible exact True.intro | ((try dsimp only); and_intros <;> first | (go_simp; done) | (go_keep; done)))); (clear hHeld hK K); (intro hHeld); (try simp only [Act.put, List.setIfInBounds_toArray, List.set_cons_zero, List.set_cons_succ]); refine lexHv 4 rfl ?_ (by kernel_rfl); (intro K hK); ((have HOW := Lib.hid (own0S wr.drew.drew)); (refine appPairs_step rfl _ _ 28 rfl Try.underlying28 eiScore wr.heap.size (by rfl) HOW.out (by rfl) ((HL.out.takeN (k := k) (by rw [HN.out]; omega)).below (by (repeat (first | with_reducible exact Below.refl _ _ | with_reducible refine Bs ?_ | with_reducible refine Ba ?_ | with_reducible refine Bd ?_ | with_reducible refine Bn ?_ | with_reducible refine Bt BW.out ?_)))) (by have := HN.out; simp; omega) (by simp) ?_); (intro v5 w5 hown5 hb5 _); (have B5 := Lib.hid (show Below wr.heap.size wr w5 from below_tr (by (repeat (first | with_reducible exact Below.refl _ _ | with_reducible refine Bs ?_ | with_reducible refine Ba ?_ | with_reducible refine Bd ?_ | with_reducible refine Bn ?_))) hb5)); (have OWN5 := Lib.hid hown5); (have s5 : wr.heap.size ≤ w5.heap.size := by have := hb5.size; simp at this; omega); (clear hown5 hb5)); refine hK.out _ _ ?_ ?_; (focus (first | with_reducible exact True.intro | ((try dsimp only); and_intros <;> first | (go_simp; done) | (go_keep; done)))); (clear hHeld hK K); (intro hHeld); (try simp only [Act.put, List.setIfInBounds_toArray, List.set_cons_zero, List.set_cons_succ]); refine lexHv 9 rfl ?_ (by kernel_rfl); (intro K hK); ((refine appPairs_step rfl _ _ 28 rfl Try.underlying28 eiScore wr.heap.size (by rfl) OWN5.out (by rfl) (show PairsR _ _ (l.drop (k + 1)) from by rw [List.drop_of_length_le (by rw [HN.out]; omega)]; exact pairs_nil' _ _ _ _ (by omega) (by omega)) (by have := HN.out; simp; omega) s5 ?_); (intro v6 w6 hown6 hb6 _); (have B6 := Lib.hid (show Below wr.heap.size wr w6 from below_tr B5.out hb6)); (have OWN6 := Lib.hid hown6); (clear hown6 hb6)); refine hK.out _ _ ?_ ?_; (focus (first | with_reducible exact True.intro | ((try dsimp only); and_intros <;> first | (go_simp; done) | (go_keep; done)))); (clear hHeld hK K); (intro hHeld); (try simp only [Act.put, List.setIfInBounds_toArray, List.set_cons_zero, List.set_cons_succ]); (refine lexTk 10 (v := ?_) rfl hHeld ?_ (by kernel_rfl) (fun _ _ _ h => h) ?_ ?_; rotate_left 2; (focus rfl); (focus (intro w hSw; (try dsimp only at hSw); first | (go_simp; done) | (go_simp; with_reducible rfl)))); (try simp only [Act.put, List.setIfInBounds_toArray, List.set_cons_zero, List.set_cons_succ]); (refine lexTk 11 (v := ?_) rfl hHeld ?_ (by kernel_rfl) (fun _ _ _ h => h) ?_ ?_; rotate_left 2; (focus rfl); (focus (intro w hSw; (try dsimp only at hSw); first | (go_simp; done) | (go_simp; with_reducible rfl)))); (try simp only [Act.put, List.setIfInBounds_toArray, List.set_cons_zero, List.set_cons_succ]); refine wpAnyH_done (by kernel_rfl) ?_ _
            go_wp2_with fail
            go_ret2
            exact ⟨_, by first | (rw [HE2.out]; done) | (rw [HE2.out]; rfl), by rw [HV2.out]; have h := OWN6.out; exact own_pairs (by simpa using h) (by have := HN.out; first | (simp; done) | (simp; omega)) (by have := HN.out; first | (simp; done) | (simp; omega)), below_tr BW.out (B6.out.mono (by omega)), .inr ((Fresh.own OWN6.out).mono (by omega))⟩
          · have hck2 : ¬ (c = k + 1) := by omega
            refine wp_region_held_drew (S := fun w' => True) (by kernel_rfl) ?_ (fun hHeld => ?_); (focus (first | with_reducible exact True.intro | ((try dsimp only); and_intros <;> first | (go_simp; done) | (go_keep; done)))); (refine lexTk 1 (v := ?_) rfl hHeld ?_ (by kernel_rfl) (fun _ _ _ h => h) ?_ ?_; rotate_left 2; (focus rfl); (focus (intro w hSw; (try dsimp only at hSw); first | (go_simp; done) | (go_simp; with_reducible rfl)))); (try simp only [Act.put, List.setIfInBounds_toArray, List.set_cons_zero, List.set_cons_succ]); (refine lexTk 2 (v := ?_) rfl hHeld ?_ (by kernel_rfl) (fun _ _ _ h => h) ?_ ?_; rotate_left 2; (focus rfl); (focus (intro w hSw; (try dsimp only at hSw); first | (go_simp; done) | (go_simp; with_reducible rfl)))); (try simp only [Act.put, List.setIfInBounds_toArray, List.set_cons_zero, List.set_cons_succ]); (refine lexTk 3 (v := ?_) rfl hHeld ?_ (by kernel_rfl) (fun _ _ _ h => h) ?_ ?_; rotate_left 2; (focus rfl); (focus (intro w hSw; (try dsimp only at hSw); first | (go_simp; done) | (go_simp; with_reducible rfl)))); (try simp only [Act.put, List.setIfInBounds_toArray, List.set_cons_zero, List.set_cons_succ]); (refine lexTk 5 (v := ?_) rfl hHeld ?_ (by kernel_rfl) (fun _ _ _ h => h) ?_ ?_; rotate_left 2; (focus rfl); (focus (intro w hSw; (try dsimp only at hSw); first | (go_simp; done) | (go_simp; with_reducible rfl)))); (try simp only [Act.put, List.setIfInBounds_toArray, List.set_cons_zero, List.set_cons_succ]); (refine lexTk 6 (v := ?_) rfl hHeld ?_ (by kernel_rfl) (fun _ _ _ h => h) ?_ ?_; rotate_left 2; (focus rfl); (focus (intro w hSw; (try dsimp only at hSw); first | (go_simp; done) | (go_simp; with_reducible rfl)))); (try simp only [Act.put, List.setIfInBounds_toArray, List.set_cons_zero, List.set_cons_succ]); (refine lexTk 7 (v := ?_) rfl hHeld ?_ (by kernel_rfl) (fun _ _ _ h => h) ?_ ?_; rotate_left 2; (focus rfl); (focus (intro w hSw; (try dsimp only at hSw); first | (go_simp; done) | (go_simp; with_reducible rfl)))); (try simp only [Act.put, List.setIfInBounds_toArray, List.set_cons_zero, List.set_cons_succ]); (refine lexTk 8 (v := ?_) rfl hHeld ?_ (by kernel_rfl) (fun _ _ _ h => h) ?_ ?_; rotate_left 2; (focus rfl); (focus (intro w hSw; (try dsimp only at hSw); first | (go_simp; done) | (go_simp; with_reducible rfl)))); (try simp only [Act.put, List.setIfInBounds_toArray, List.set_cons_zero, List.set_cons_succ]); refine lexHv 0 rfl ?_ (by kernel_rfl); (intro K hK); (go_simp); refine hK.out _ _ ?_ ?_; (focus (first | with_reducible exact True.intro | ((try dsimp only); and_intros <;> first | (go_simp; done) | (go_keep; done)))); (clear hHeld hK K); (intro hHeld); (try simp only [Act.put, List.setIfInBounds_toArray, List.set_cons_zero, List.set_cons_succ]); refine lexHv 4 rfl ?_ (by kernel_rfl); (intro K hK); ((have HOW := Lib.hid (own0S wr.drew.drew)); (refine appPairs_step rfl _ _ 28 rfl Try.underlying28 eiScore wr.heap.size (by rfl) HOW.out (by rfl) ((HL.out.takeN (k := k) (by rw [HN.out]; omega)).below (by (repeat (first | with_reducible exact Below.refl _ _ | with_reducible refine Bs ?_ | with_reducible refine Ba ?_ | with_reducible refine Bd ?_ | with_reducible refine Bn ?_ | with_reducible refine Bt BW.out ?_)))) (by have := HN.out; simp; omega) (by simp) ?_); (intro v5 w5 hown5 hb5 _); (have B5 := Lib.hid (show Below wr.heap.size wr w5 from below_tr (by (repeat (first | with_reducible exact Below.refl _ _ | with_reducible refine Bs ?_ | with_reducible refine Ba ?_ | with_reducible refine Bd ?_ | with_reducible refine Bn ?_))) hb5)); (have OWN5 := Lib.hid hown5); (have s5 : wr.heap.size ≤ w5.heap.size := by have := hb5.size; simp at this; omega); (clear hown5 hb5)); refine hK.out _ _ ?_ ?_; (focus (first | with_reducible exact True.intro | ((try dsimp only); and_intros <;> first | (go_simp; done) | (go_keep; done)))); (clear hHeld hK K); (intro hHeld); (try simp only [Act.put, List.setIfInBounds_toArray, List.set_cons_zero, List.set_cons_succ]); refine lexHv 9 rfl ?_ (by kernel_rfl); (intro K hK); ((refine appPairs_step rfl _ _ 28 rfl Try.underlying28 eiScore wr.heap.size (by rfl) OWN5.out (by rfl) (((HL.out.dropN (k := k + 1) (by rw [HN.out]; omega)).below (below_tr BW.out (B5.out.mono (by omega))))) (by have := HN.out; simp; omega) s5 ?_); (intro v6 w6 hown6 hb6 _); (have B6 := Lib.hid (show Below wr.heap.size wr w6 from below_tr B5.out hb6)); (have OWN6 := Lib.hid hown6); (clear hown6 hb6)); refine hK.out _ _ ?_ ?_; (focus (first | with_reducible exact True.intro | ((try dsimp only); and_intros <;> first | (go_simp; done) | (go_keep; done)))); (clear hHeld hK K); (intro hHeld); (try simp only [Act.put, List.setIfInBounds_toArray, List.set_cons_zero, List.set_cons_succ]); (refine lexTk 10 (v := ?_) rfl hHeld ?_ (by kernel_rfl) (fun _ _ _ h => h) ?_ ?_; rotate_left 2; (focus rfl); (focus (intro w hSw; (try dsimp only at hSw); first | (go_simp; done) | (go_simp; with_reducible rfl)))); (try simp only [Act.put, List.setIfInBounds_toArray, List.set_cons_zero, List.set_cons_succ]); (refine lexTk 11 (v := ?_) rfl hHeld ?_ (by kernel_rfl) (fun _ _ _ h => h) ?_ ?_; rotate_left 2; (focus rfl); (focus (intro w hSw; (try dsimp only at hSw); first | (go_simp; done) | (go_simp; with_reducible rfl)))); (try simp only [Act.put, List.setIfInBounds_toArray, List.set_cons_zero, List.set_cons_succ]); refine wpAnyH_done (by kernel_rfl) ?_ _
            go_wp2_with fail
            go_ret2
            exact ⟨_, by first | (rw [HE2.out]; done) | (rw [HE2.out]; rfl), by rw [HV2.out]; have h := OWN6.out; exact own_pairs (by simpa using h) (by have := HN.out; first | (simp; done) | (simp; omega)) (by have := HN.out; first | (simp; done) | (simp; omega)), below_tr BW.out (B6.out.mono (by omega)), .inr ((Fresh.own OWN6.out).mono (by omega))⟩
        · have HG1 := Lib.hid (show ∀ j z, j < k + 1 → l[j]? = some z → z ≠ (p, q) from fun j z hj hz => by
            rcases Nat.lt_or_ge j k with h | h
            · exact HGE.out j z h hz
            · obtain rfl : j = k := by omega
              rw [HX.out] at hz
              injection hz with hz
              rw [← hz]
              exact e0)
          have e1 : x = p → ¬ y = q := fun h1 h2 => e0 (by rw [h1, h2])
          clear HGE
          by_cases e2 : x = p
          · have e3 := e1 e2
            clear e1 e0
            subst e2
            go_wp2_with fail
            refine wp_region_held_drew (S := fun w' => w'.cell? ⟨b, o + k * 2, none⟩ = some (.int .i64 x) ∧ w'.cell? ⟨b, o + k * 2 + 1, none⟩ = some (.int .i64 y) ∧ w'.cell? ⟨w.heap.size, 0, none⟩ = some (.int .i64 x) ∧ w'.cell? ⟨w.heap.size, 1, none⟩ = some (.int .i64 q)) (by kernel_rfl) ?_ (fun hHeld => ?_); (focus (first | with_reducible exact True.intro | ((try dsimp only); and_intros <;> first | (go_simp; done) | (go_keep; done)))); (refine lexTk 0 (v := ?_) rfl hHeld ?_ (by kernel_rfl) (fun _ _ _ h => h) ?_ ?_; rotate_left 2; (focus rfl); (focus (intro w hSw; (try dsimp only at hSw); first | (go_simp; done) | (go_simp; with_reducible rfl)))); (try simp only [Act.put, List.setIfInBounds_toArray, List.set_cons_zero, List.set_cons_succ]); (refine lexTk 1 (v := ?_) rfl hHeld ?_ (by kernel_rfl) (fun _ _ _ h => h) ?_ ?_; rotate_left 2; (focus rfl); (focus (intro w hSw; (try dsimp only at hSw); first | (go_simp; done) | (go_simp; with_reducible rfl)))); (try simp only [Act.put, List.setIfInBounds_toArray, List.set_cons_zero, List.set_cons_succ]); (refine lexTk 2 (v := ?_) rfl hHeld ?_ (by kernel_rfl) (fun _ _ _ h => h) ?_ ?_; rotate_left 2; (focus rfl); (focus (intro w hSw; (try dsimp only at hSw); first | (go_simp; done) | (go_simp; with_reducible rfl)))); (try simp only [Act.put, List.setIfInBounds_toArray, List.set_cons_zero, List.set_cons_succ]); (refine lexTk 3 (v := ?_) rfl hHeld ?_ (by kernel_rfl) (fun _ _ _ h => h) ?_ ?_; rotate_left 2; (focus rfl); (focus (intro w hSw; (try dsimp only at hSw); first | (go_simp; done) | (go_simp; with_reducible rfl)))); (try simp only [Act.put, List.setIfInBounds_toArray, List.set_cons_zero, List.set_cons_succ]); (refine lexTk 4 (v := ?_) rfl hHeld ?_ (by kernel_rfl) (fun _ _ _ h => h) ?_ ?_; rotate_left 2; (focus rfl); (focus (intro w hSw; (try dsimp only at hSw); first | (go_simp; done) | (go_simp; with_reducible rfl)))); (try simp only [Act.put, List.setIfInBounds_toArray, List.set_cons_zero, List.set_cons_succ]); (refine lexTk 5 (v := ?_) rfl hHeld ?_ (by kernel_rfl) (fun _ _ _ h => h) ?_ ?_; rotate_left 2; (focus rfl); (focus (intro w hSw; (try dsimp only at hSw); first | (go_simp; done) | (go_simp; with_reducible rfl)))); (try simp only [Act.put, List.setIfInBounds_toArray, List.set_cons_zero, List.set_cons_succ]); refine wpAnyH_done (by kernel_rfl) ?_ _
            go_wp2_with fail
            refine ⟨⟨k + 1, by go_num, by omega, HG1.out, by (repeat (first | with_reducible exact Below.refl _ _ | with_reducible refine Bs ?_ | with_reducible refine Ba ?_ | with_reducible refine Bd ?_ | with_reducible refine Bn ?_ | with_reducible refine Bt BR.out ?_))⟩, by simp [intOf]; omega⟩
          · clear e1 e0
            go_wp2_with fail
            refine wp_region_held_drew (S := fun w' => w'.cell? ⟨b, o + k * 2, none⟩ = some (.int .i64 x) ∧ w'.cell? ⟨b, o + k * 2 + 1, none⟩ = some (.int .i64 y) ∧ w'.cell? ⟨w.heap.size, 0, none⟩ = some (.int .i64 p) ∧ w'.cell? ⟨w.heap.size, 1, none⟩ = some (.int .i64 q)) (by kernel_rfl) ?_ (fun hHeld => ?_); (focus (first | with_reducible exact True.intro | ((try dsimp only); and_intros <;> first | (go_simp; done) | (go_keep; done)))); (refine lexTk 0 (v := ?_) rfl hHeld ?_ (by kernel_rfl) (fun _ _ _ h => h) ?_ ?_; rotate_left 2; (focus rfl); (focus (intro w hSw; (try dsimp only at hSw); first | (go_simp; done) | (go_simp; with_reducible rfl)))); (try simp only [Act.put, List.setIfInBounds_toArray, List.set_cons_zero, List.set_cons_succ]); (refine lexTk 1 (v := ?_) rfl hHeld ?_ (by kernel_rfl) (fun _ _ _ h => h) ?_ ?_; rotate_left 2; (focus rfl); (focus (intro w hSw; (try dsimp only at hSw); first | (go_simp; done) | (go_simp; with_reducible rfl)))); (try simp only [Act.put, List.setIfInBounds_toArray, List.set_cons_zero, List.set_cons_succ]); (refine lexTk 2 (v := ?_) rfl hHeld ?_ (by kernel_rfl) (fun _ _ _ h => h) ?_ ?_; rotate_left 2; (focus rfl); (focus (intro w hSw; (try dsimp only at hSw); first | (go_simp; done) | (go_simp; with_reducible rfl)))); (try simp only [Act.put, List.setIfInBounds_toArray, List.set_cons_zero, List.set_cons_succ]); (refine lexTk 3 (v := ?_) rfl hHeld ?_ (by kernel_rfl) (fun _ _ _ h => h) ?_ ?_; rotate_left 2; (focus rfl); (focus (intro w hSw; (try dsimp only at hSw); first | (go_simp; done) | (go_simp; with_reducible rfl)))); (try simp only [Act.put, List.setIfInBounds_toArray, List.set_cons_zero, List.set_cons_succ]); (refine lexTk 4 (v := ?_) rfl hHeld ?_ (by kernel_rfl) (fun _ _ _ h => h) ?_ ?_; rotate_left 2; (focus rfl); (focus (intro w hSw; (try dsimp only at hSw); first | (go_simp; done) | (go_simp; with_reducible rfl)))); (try simp only [Act.put, List.setIfInBounds_toArray, List.set_cons_zero, List.set_cons_succ]); (refine lexTk 5 (v := ?_) rfl hHeld ?_ (by kernel_rfl) (fun _ _ _ h => h) ?_ ?_; rotate_left 2; (focus rfl); (focus (intro w hSw; (try dsimp only at hSw); first | (go_simp; done) | (go_simp; with_reducible rfl)))); (try simp only [Act.put, List.setIfInBounds_toArray, List.set_cons_zero, List.set_cons_succ]); refine wpAnyH_done (by kernel_rfl) ?_ _
            go_wp2_with fail
            refine ⟨⟨k + 1, by go_num, by omega, HG1.out, by (repeat (first | with_reducible exact Below.refl _ _ | with_reducible refine Bs ?_ | with_reducible refine Ba ?_ | with_reducible refine Bd ?_ | with_reducible refine Bn ?_ | with_reducible refine Bt BR.out ?_))⟩, by simp [intOf]; omega⟩
      · obtain rfl : k = n := by omega
        have hnm : (p, q) ∉ l := fun hm => by
          obtain ⟨j, hj⟩ := List.getElem?_of_mem hm
          exact hge j _ (by have := (List.getElem?_eq_some_iff.1 hj).1; rw [HN.out] at this; exact this) hj rfl
        have HE2 := Lib.hid (show E = 4 by rw [← HE.out]; unfold takE; rw [HSB.out, if_pos rfl, if_neg hnm])
        have HV2 := Lib.hid (show V = l by rw [← HV.out]; unfold takS; rw [HE.out, HE2.out]; rfl)
        clear hge hbr hnm
        have m2 : ¬ (k : Int) < (k : Int) := by omega
        go_wp2_with fail
        go_ret2
        exact ⟨_, by first | (rw [HE2.out]; done) | (rw [HE2.out]; rfl), by rw [HV2.out]; exact HL.out.below BW.out, BW.out, .inl rfl⟩
end Go.Proofs.Ytjmjnkilgoelbaa
