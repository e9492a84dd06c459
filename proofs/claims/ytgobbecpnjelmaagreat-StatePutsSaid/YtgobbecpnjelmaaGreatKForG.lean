/-
  ForG: Walks of copseref14.Is, asked, Oldest and Ages.
-/
import Derived.Test.YtgobbecpnjelmaaGreatKForE
import Derived.Test.YtgobbecpnjelmaaGreatJ3a
namespace Go.Proofs.YtgobbecpnjelmaaGreat
open Go.RowKit

theorem isF_born {l : List (TreeP × Int)} {k : Nat} {p : TreeP × Int} (hp : l[k]? = some p) (h : ¬ (0 ≤ p.2 ∧ p.2 ≤ 1099511627776)) : isF l = false := by
 cases hF : isF l with
 | false => rfl
 | true => exact absurd (isF_at hF hp).1 h

theorem isF_long {l : List (TreeP × Int)} (h : 16 < l.length) : isF l = false := by
 cases hF : isF l with
 | false => rfl
 | true => have := isF_len hF; omega

theorem isF_rest {l : List (TreeP × Int)} (h : ∀ (k : Nat) (p : TreeP × Int), l[k]? = some p → 0 ≤ p.2 ∧ p.2 ≤ 1099511627776) (h2 : l.length ≤ 16) : isF l = allT (l.map (·.1)) := by
 rw [isF_is, decide_eq_true h2, Bool.true_and]
 have : (l.all fun p => bornB p.2) = true := by
  rw [List.all_eq_true]
  intro p hp
  obtain ⟨k, hk⟩ := List.getElem?_of_mem hp
  have := h k p hk
  unfold bornB
  simp [this]
 rw [this, Bool.true_and]

set_option maxRecDepth 100000 in
set_option maxHeartbeats 4000000 in
theorem ris14_any (v : Value) (l : List (TreeP × Int)) (w : World) (h : GrownsR w v l) :
  Calls Tryz.prog 80 #[v] w fun e w' => e = .returned (.bool (isF l)) ∧ Below w.heap.size w w' := by
 have HG := hH h
 have HTR := hH (fun W (hW : GrownsR W v l) (hn : l.length ≤ 1000) => trees14_in v l W hW hn)
 have HAL := hH (fun v' W (hW : TreesR W v' (l.map (·.1))) => rall_any v' _ W hW)
 have HM1 := hH (show (l.map (·.1)).length = l.length from List.length_map ..)
 obtain ⟨FB, hFB⟩ : ∃ FB, isF l = FB := ⟨_, rfl⟩
 rw [hFB]
 have HFB := hH hFB
 obtain ⟨ad, cc, rfl, _, _, q3, _⟩ := h
 obtain ⟨n, hnn⟩ : ∃ n, l.length = n := ⟨_, rfl⟩
 have HN := hH hnn
 have HRS := hH (show n ≤ 16 → (∀ (k : Nat) (p : TreeP × Int), l[k]? = some p → 0 ≤ p.2 ∧ p.2 ≤ 1099511627776) → FB = allT (l.map (·.1)) from fun h1 h2 => by rw [← hFB]; exact isF_rest h2 (by omega))
 rw [hnn] at q3 HG HTR HM1 ⊢
 have HLB := hH (fun k p (hp : l[k]? = some p) (h : ¬ (0 ≤ p.2 ∧ p.2 ≤ 1099511627776)) => hFB ▸ isF_born hp h)
 have HLL := hH (show 16 < n → FB = false from fun h => hFB ▸ isF_long (by omega))
 clear hnn hFB
 go_enter Tryz.func80, Tryz.ntmps80
 go_wp2_with fail
 go_loopw [3] (fun idx wr => ∃ k : Nat, idx = .int .i64 k ∧ k ≤ n ∧ (∀ (j : Nat) (p : TreeP × Int), j < k → l[j]? = some p → 0 ≤ p.2 ∧ p.2 ≤ 1099511627776) ∧ w = wr) (fun idx _ => n - (intOf idx).toNat)
 case atStart => exact ⟨0, rfl, by omega, fun j p h => by omega, rfl⟩
 case round =>
  obtain ⟨k, rfl, hk, hall, rfl⟩ := hrel
  have HA := hH hall
  clear hall
  by_cases hlt : k < n
  ·obtain ⟨p, hp⟩ := getElem?_ex (l := l) (k := k) (by rw [HN.out]; exact hlt)
   obtain ⟨b, o, na, nc, rfl, hb, c0, c1, c2, _⟩ := growns_at HG.out hp
   have i1 : (0 : Int) ≤ (k : Int) := by omega
   have i2 : (k : Int) < (n : Int) := by omega
   have HP := hH hp
   have HB1 := hH (HLB.out k p hp)
   obtain ⟨z, hz⟩ : ∃ z, p.2 = z := ⟨_, rfl⟩
   rw [hz] at c2 HB1
   have HZ := hH hz
   clear c0 c1 hp hz
   by_cases hz0 : z < 0
   ·have G := hH (HB1.out (by omega))
    go_wp2_with fail
    go_ret
    exact ⟨by rw [G.out]; rfl, bw⟩
   ·have hz1 : ¬ z < 0 := hz0
    by_cases hz2 : 1099511627776 < z
    ·have G := hH (HB1.out (by omega))
     go_wp2_with fail
     go_ret
     exact ⟨by rw [G.out]; rfl, bw⟩
    ·have G := hH (show ∀ (j : Nat) (q : TreeP × Int), j < k + 1 → l[j]? = some q → 0 ≤ q.2 ∧ q.2 ≤ 1099511627776 from fun j q hj hq => by
      rcases Nat.lt_or_ge j k with h2 | h2
      ·exact HA.out j q h2 hq
      ·obtain rfl : j = k := by omega
       rw [HP.out] at hq
       injection hq with hq
       subst hq
       rw [HZ.out]
       omega)
     go_wp2_with fail
     go_roundw
     case rel => exact ⟨k + 1, by go_num, by omega, G.out, by first | trivial | rfl⟩
     case measure => simp [intOf] <;> omega
  ·obtain rfl : k = n := by omega
   have HALL := hH (show ∀ (j : Nat) (p : TreeP × Int), l[j]? = some p → 0 ≤ p.2 ∧ p.2 ≤ 1099511627776 from fun j p hp => HA.out j p (by have := (List.getElem?_eq_some_iff.1 hp).1; rw [HN.out] at this; exact this) hp)
   by_cases h0 : k = 0
   ·subst h0
    have hl0 : l = [] := List.eq_nil_of_length_eq_zero HN.out
    have G := hH (show FB = true by rw [HRS.out (by omega) HALL.out, hl0]; rfl)
    clear hl0
    go_wp2_with fail
    go_ret
    exact ⟨by rw [G.out]; rfl, bw⟩
   ·have j0 : ((k : Int) == 0) = false := by simp; omega
    by_cases h16 : 16 < k
    ·have G := hH (HLL.out h16)
     have j16 : decide ((k : Int) ≤ 16) = false := decide_eq_false (by omega)
     have i16 : ¬ (k : Int) ≤ 16 := by omega
     go_wp2_with fail
     go_ret
     exact ⟨by rw [G.out]; rfl, bw⟩
    ·have i16 : (k : Int) ≤ 16 := by omega
     have GE := hH (HRS.out (by omega) HALL.out)
     have hpos : decide (0 < k) = true := decide_eq_true (by omega)
     obtain ⟨L, hL⟩ : ∃ L, l.map (·.1) = L := ⟨_, rfl⟩
     rw [hL] at HTR HAL GE HM1
     rw [HM1.out, hpos, Bool.true_and, ← GE.out] at HAL
     clear hL hpos
     go_wp2_with fail
     (with_reducible refine (HTR.out _ (HG.out.below bw) (by omega)).mono ?_)
     rintro e w1 ⟨v1, rfl, t1, b1⟩
     have T1 := hH t1
     have B1 := hH b1
     obtain ⟨ta, tc, rfl, _⟩ := t1
     clear b1
     go_wp2_with fail
     (with_reducible refine (HAL.out _ _ T1.out).mono ?_)
     rintro e w2 ⟨rfl, b2⟩
     have B2 := hH (show Below w.heap.size w w2 from below_tr (bx B1.out) (b2.mono (by have := B1.out.size; omega)))
     clear b2
     go_wp2_with fail
     go_ret
     exact ⟨rfl, B2.out⟩

end Go.Proofs.YtgobbecpnjelmaaGreat
