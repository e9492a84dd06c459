/-
  A range over a function of which a round's body returns at some time: the statement, and one round.
-/
import Derived.Test.YtoljilbldkbjpaaPickL
namespace Go.Proofs.Ytoljilbldkbjpaa
open Go.RowKit

/-- The loop's record. -/
def recL (fn : FuncId) (tmps : Array Value) (ps : Array Tmp) (assign body : Code) (D : Nat) (st : LoopState) (pe : Option Code) : Loop :=
  { state := st, pending := pe, fn, tmps, params := ps, assign, body, defers := D }

theorem range_in {P : Program} {n : Nat} {g : Operand} {ps : Array Tmp} {assign body : Code} {Q : Exit → Act → World → Prop} {a : Act} {W : World} {gf : Nat} {lb : Array Value}
    (hg : a.eval g = .func (.func gf) #[] lb) (eg : ∀ args w, (callFunc gf args).run P w = .ok (.enter gf args) w) (X : World → Prop)
    (hcall : ∀ fn RC, RC = recL fn a.tmps ps assign body W.heap.size → CallsIn Fence.wide (n - 1) P gf (#[.func (.yield (W.heap.size + 1)) #[] #[]] ++ lb) ((W.alloc (.deferred (some []))).alloc (.loop (RC .ready none))) fun e W2 =>
      (∃ v, e = .returned v) ∧ W2.heap[W.heap.size + 1]? = some (.loop (RC .done (some .ret))) ∧ X (W2.putObj (W.heap.size + 1) (.loop (RC .exhausted (some .ret)))))
    (hret : ∀ W2, X W2 → Code.ret.wpIn Fence.wide n P Q { a with defers := [{ target := .collected W.heap.size, args := #[] }] ++ a.defers } W2) :
    (Code.rangeFunc g ps assign body).wpIn Fence.wide n P Q a W := by
  refine wpIn_rangeFunc fun fn _ => ?_
  obtain ⟨W1, hW1⟩ : ∃ W1, (W.alloc (.deferred (some []))).alloc (.loop (recL fn a.tmps ps assign body W.heap.size .ready none)) = W1 := ⟨_, rfl⟩
  have hc := hcall fn _ rfl
  rw [hW1] at hc
  refine ⟨W.heap.size + 1, [{ target := .collected W.heap.size, args := #[] }], W1, { target := .fn (.func gf) lb, args := #[.func (.yield (W.heap.size + 1)) #[] #[]] }, W1, gf, #[.func (.yield (W.heap.size + 1)) #[] #[]] ++ lb, W1, ?_, ?_, fun _ _ => trivial, ?_, fun h => by simp [Fence.wide] at h, ?_⟩
  · rw [← hW1]
    exact run_enterLoop_outer fn a.tmps ps assign body
  · simp only [resolve, hg]
    simp [go_sem]
  · simp [invoke, go_sem, eg]
  · refine hc.mono ?_
    rintro e W2 ⟨⟨v, rfl⟩, hl, hx⟩
    exact ⟨some .ret, _, run_endLoop hl (by simp [recL]), hret _ hx⟩

theorem round_in {P : Program} {m l D : Nat} {fn : FuncId} {tmps : Array Value} {ps : Array Tmp} {assign body : Code} {args : Array Value} {W : World} {R : Ending → World → Prop} {RC : LoopState → Option Code → Loop} (hRC : RC = recL fn tmps ps assign body D)
    (hl : W.heap[l]? = some (.loop (RC .ready none))) (hs : args.size = ps.size) {V : World} (hV : V = W.putObj l (.loop (RC .busy none)))
    (h : assign.wpIn (Fence.wide.inRound l) m P (Exit.then (fun a₁ w₁ => w₁ = W ∧ body.wpIn (Fence.wide.inRound l) m P (fun e _ W3 => match e with
      | .normal => W3.heap[l]? = some (.loop (RC .busy none)) ∧ R (.returned (.bool true)) (W3.putObj l (.loop (RC .ready none)))
      | .ret => W3.heap[l]? = some (.loop (RC .busy none)) ∧ R (.returned (.bool false)) (W3.putObj l (.loop (RC .done (some .ret))))
      | _ => False) a₁ V) (fun _ _ _ => False))
      { tmps := (ps.zip args).foldl (fun t (p, v) => t.setIfInBounds p v) tmps, defers := [] } W) :
    YieldAt Fence.wide m P l args W R := by
  subst hRC hV
  refine ⟨fn, _, assign, body, run_yield hl hs, roundIn_of_wpIn trivial (wpIn_mono h ?_)⟩
  rintro e a1 w1 hq
  cases e with
  | normal =>
    obtain ⟨rfl, hb⟩ := hq
    refine ⟨_, run_beginRound hl rfl, wpIn_mono hb ?_⟩
    rintro e a3 W3 hp
    cases e with
    | normal => exact ⟨_, _, run_endRound none hp.1, hp.2⟩
    | ret => exact ⟨_, _, run_endRound (some .ret) hp.1, hp.2⟩
    | exit id => exact hp.elim
    | goto t => exact hp.elim
    | panic ch => exact hp.elim
    | outgrown => exact hp.elim
  | ret => exact hq.elim
  | exit id => exact hq.elim
  | goto t => exact hq.elim
  | panic ch => exact hq.elim
  | outgrown => exact hq.elim

/-! ### a region in a round, by the laws for a region outside -/
theorem oper_round {P : Program} {o : Oper} {a : Act} {w : World} {K K' : Act → World → Prop} {Q : Exit → Act → World → Prop} (l n : Nat) (hd : ∀ c, o.op ≠ .defer c) (hK : ∀ a w, K a w → K' a w)
    (h : o.wp P a w K Q) : o.wpIn (Fence.wide.inRound l) n P a w K' Q := by
  refine ⟨fun _ _ => trivial, ?_⟩
  rw [Oper.semAt_plain (Fence.wide.inRound l) _ _ hd]
  unfold Oper.wp at h
  cases hr : (execOp a.eval o).run P w with
  | ok x w' =>
    rw [hr] at h
    cases x with
    | value v => exact hK _ _ h
    | skip => exact hK _ _ h
    | defer d => exact hK _ _ h
    | enter f args =>
      refine ⟨fun hx => by simp [Fence.wide] at hx, ?_⟩
      refine CallsIn.inRound l (callsIn_wide.2 (Calls.mono h fun e w'' hx => ?_))
      cases e with
      | returned v => exact hK _ _ hx
      | panicked c => exact hx
      | outgrown => exact hx
    | row r args =>
      refine ⟨fun hx => by simp [Fence.wide] at hx, fun c cs _ => ?_⟩
      obtain ⟨v, w'', hx, hs⟩ := h c cs
      exact ⟨v, w'', hK _ _ hx, stepsIn_wide.2 hs⟩
    | _ => exact h.elim
  | halt x w' =>
    rw [hr] at h
    cases x with
    | panic v => exact h
    | _ => exact h.elim

theorem wpOp_round {P : Program} {ops : Array Oper} {i : Nat} {a : Act} {w : World} {K K' : Act → World → Prop} {Q : Exit → Act → World → Prop} (l n : Nat) (hd : ∀ o ∈ ops, ∀ c, o.op ≠ .defer c) (hout : ¬ LetsOut Q) (hK : ∀ a w, K a w → K' a w)
    (h : wpOp P ops Q i K a w) : wpOpIn (Fence.wide.inRound l) n P ops Q i K' a w := by
  unfold wpOp at h
  unfold wpOpIn
  cases ho : ops[i]? with
  | none => rw [ho] at h; exact hK _ _ h
  | some o =>
    rw [ho] at h
    simp only at h ⊢
    by_cases hw : Region.wanted o (yielded ops a.tmps) = true
    · rw [if_pos hw] at h ⊢
      rcases h with h | ⟨_, h⟩
      · exact oper_round l n (hd o (Array.mem_of_getElem? ho)) hK h
      · exact absurd h hout
    · rw [if_neg hw] at h ⊢
      exact ⟨fun _ _ => trivial, hK _ _ h⟩

theorem wpAny_round {P : Program} {md : Region.Mode} {ops : Array Oper} {Q : Exit → Act → World → Prop} (l n : Nat) (hd : ∀ o ∈ ops, ∀ c, o.op ≠ .defer c) (hout : ¬ LetsOut Q) :
    ∀ (fuel : Nat) (listed : Array Bool) (a : Act) (w : World), wpAny P md ops Q fuel listed a w → wpAnyIn (Fence.wide.inRound l) n P md ops Q fuel listed a w
  | 0, _, _, _, h => h
  | fuel + 1, _, _, _, h => ⟨h.1, fun i hi => wpOp_round l n hd hout (fun a w h => wpAny_round l n hd hout fuel _ a w h) (h.2 i hi)⟩
end Go.Proofs.Ytoljilbldkbjpaa
