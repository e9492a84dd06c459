/-
  Plain law of wide.Parse: the number of a text of digits.
-/
import Derived.Test.YticpmcghdoiceaaWideE
namespace Go.Proofs.Yticpmcghdoiceaa

/-- The number that a list of digits goes on to; none where it does not fit. -/
def decN : Nat → List Int → Option Nat
  | m, [] => some m
  | m, c :: cs => if m * 10 + (c - 48).toNat < T128 then decN (m * 10 + (c - 48).toNat) cs else none

/-- What wide.Parse answers: the number and the errno (20: no text of a number; 10: it does not fit). -/
def parseL (l : List Int) : Nat × Int :=
  if l = [] ∨ (1 < l.length ∧ l[0]? = some 48) then (0, 20)
  else if l.all (fun c => decide (48 ≤ c ∧ c ≤ 57)) then
    match decN 0 l with
    | some n => (n, 0)
    | none => (0, 10)
  else (0, 20)

theorem decN_app (m : Nat) (a b : List Int) : decN m (a ++ b) = (decN m a).bind fun k => decN k b := by
  induction a generalizing m with
  | nil => rfl
  | cons c cs ih =>
    simp only [List.cons_append, decN]
    split
    · exact ih _
    · rfl
end Go.Proofs.Yticpmcghdoiceaa
