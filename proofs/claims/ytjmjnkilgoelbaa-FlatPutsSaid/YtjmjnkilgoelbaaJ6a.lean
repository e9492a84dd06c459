/-
  FlatJ: Put as a whole: what it answers, and what the pack is then.
  FlatK: Walk of flat.Of.
  FlatR: Plain: what the rows of packed trees hold at a place; the way of a vector in a tree. A law for two labels in one scope.
-/
import Derived.Test.YtjmjnkilgoelbaaKFlatHA
import Derived.Test.YtjmjnkilgoelbaaKFlatHB
import Derived.Test.YtjmjnkilgoelbaaKFlatHC
import Derived.Test.YtjmjnkilgoelbaaKFlatHD
import Derived.Test.YtjmjnkilgoelbaaJ1a
import Derived.ScopeJumps
namespace Go.Proofs.Ytjmjnkilgoelbaa
open Go.RowKit

noncomputable def putC (l : List TreeP) (i : Int) (t : TreeP) : Int :=
  if i < 0 then 1 else if (l.length : Int) < i then 1 else if i = 16 then 3 else if treeB t = false then 100 else if 0 < l.length ∧ t.dim ≠ dimL l ∧ (1 < l.length ∨ i = 1) then 100 else 0
noncomputable def putL (l : List TreeP) (i : Int) (t : TreeP) : List TreeP := if putC l i t = 0 then l.take i.toNat ++ [t] ++ l.drop (i.toNat + 1) else l

theorem putL_no {l : List TreeP} {i c : Int} {t : TreeP} (h : putC l i t = c) (hc : c ≠ 0) : putL l i t = l := by unfold putL; rw [if_neg (by rw [h]; exact hc)]

theorem fput_any {B P : Nat} {l : List TreeP} {vs : List Value} {nv : Value} (i : Int) (v : Value) (t : TreeP) (w : World) (h : PackAt w B P l vs nv) (hv : ∀ W, OnlyIn (P :: rowsB vs) w W → TreeR W v t) (hB : B ≤ w.heap.size) :
    Calls Try.prog 75 #[.pointer (some ⟨P, 0, none⟩), .int .i64 i, v] w fun e w' => e = .returned (.int .i64 (putC l i t)) ∧ ∃ vs', PackAt w' B P (putL l i t) vs' nv ∧ OnlyIn (P :: rowsB vs) w w' ∧ ∀ b, b ∈ P :: rowsB vs' → b ∈ P :: rowsB vs ∨ w.heap.size ≤ b := by
  have hv0 := hv w (OnlyIn.refl _ _)
  have no : ∀ {c : Int}, putC l i t = c → c ≠ 0 → (Calls Try.prog 75 #[.pointer (some ⟨P, 0, none⟩), .int .i64 i, v] w fun e w' => e = .returned (.int .i64 c) ∧ Below w.heap.size w w') →
      Calls Try.prog 75 #[.pointer (some ⟨P, 0, none⟩), .int .i64 i, v] w fun e w' => e = .returned (.int .i64 (putC l i t)) ∧ ∃ vs', PackAt w' B P (putL l i t) vs' nv ∧ OnlyIn (P :: rowsB vs) w w' ∧ ∀ b, b ∈ P :: rowsB vs' → b ∈ P :: rowsB vs ∨ w.heap.size ≤ b := by
    intro c hc hc0 k
    rw [putL_no hc hc0, hc]
    exact k.mono fun e w' ⟨h1, h2⟩ => ⟨h1, vs, h.below h2, OnlyIn.ofBelow h2, fun b hb => .inl hb⟩
  by_cases h1 : i < 0
  · exact no (by unfold putC; rw [if_pos h1]) (by decide) (fput_low i P v t w hv0 h1)
  by_cases h2 : (l.length : Int) < i
  · exact no (by unfold putC; rw [if_neg h1, if_pos h2]) (by decide) (fput_high i v t w h hv0 h1 h2)
  have hm := h.many
  by_cases h3 : i = 16
  · subst h3
    exact no (by unfold putC; rw [if_neg h1, if_neg h2, if_pos rfl]) (by decide) (fput_full v t w h hv0 (by omega))
  obtain ⟨i, rfl⟩ : ∃ k : Nat, i = (k : Int) := ⟨i.toNat, by omega⟩
  cases ht : treeB t with
  | false => exact no (by unfold putC; rw [if_neg h1, if_neg h2, if_neg h3, if_pos ht]) (by decide) (fput_not i v t w h hv0 (by omega) (by omega) ht)
  | true =>
    by_cases h4 : 0 < l.length ∧ t.dim ≠ dimL l ∧ (1 < l.length ∨ (i : Int) = 1)
    · exact no (by unfold putC; rw [if_neg h1, if_neg h2, if_neg h3, if_neg (by simp [ht]), if_pos h4]) (by decide) (fput_dim i v t w h hv0 (by omega) (by omega) ht h4.1 h4.2.1 (by omega))
    have hC : putC l i t = 0 := by unfold putC; rw [if_neg h1, if_neg h2, if_neg h3, if_neg (by simp [ht]), if_neg h4]
    have hL : putL l i t = l.take i ++ [t] ++ l.drop (i + 1) := by unfold putL; rw [if_pos hC]; rfl
    rw [hC, hL]
    by_cases hn : i = l.length
    · have e1 : l.take i = l := List.take_of_length_le (by omega)
      have e2 : l.drop (i + 1) = [] := List.drop_of_length_le (by omega)
      rw [e1, e2]
      by_cases h0 : l = []
      · subst h0
        exact fput_C i v t w h hv hn rfl ht hB
      · have hp : 0 < l.length := List.length_pos_iff.2 h0
        exact fput_B i v t w h hv hn hp (by omega) (by
          by_cases hd : t.dim = dimL l
          · exact hd
          · exact absurd ⟨hp, hd, by omega⟩ h4) ht hB
    · obtain ⟨o, ho⟩ := getElem?_ex (l := l) (k := i) (by omega)
      have hl : l = l.take i ++ [o] ++ l.drop (i + 1) := by
        rw [List.append_assoc, List.singleton_append, (List.getElem?_eq_some_iff.1 ho).2.symm, List.getElem_cons_drop, List.take_append_drop]
      have hi : i = (l.take i).length := by rw [List.length_take]; omega
      by_cases hd : t.dim = dimL l
      · rw [hl] at h hd
        exact fput_A (o := o) i v t w h hv hi hd ht hB
      · have hn1 : l.length = 1 ∧ i = 0 := by
          constructor
          · rcases Nat.lt_or_ge 1 l.length with h5 | h5
            · exact absurd ⟨by omega, hd, .inl h5⟩ h4
            · omega
          · omega
        rw [hl] at h hd
        refine fput_D (o := o) i v t w h hv hi (by rw [hn1.2]; rfl) (List.drop_of_length_le (by omega)) hd ht hB
end Go.Proofs.Ytjmjnkilgoelbaa

namespace Go.Proofs.Ytjmjnkilgoelbaa
open Go.RowKit

noncomputable def ofC (l : List TreeP) : Int := if 16 < l.length then 3 else if allT l = false then 100 else 0

theorem dimL_take {l : List TreeP} {k : Nat} (h : ∀ i t, i < k → l[i]? = some t → okT l t = true) (h0 : 0 < k) (hk : k ≤ l.length) : dimL (l.take k) = dim0 l := by
  refine dimL_all (fun t ht => ?_) (fun e => ?_)
  · obtain ⟨i, hi⟩ := List.getElem?_of_mem ht
    have hlt := (List.getElem?_eq_some_iff.1 hi).1
    rw [List.length_take] at hlt
    rw [List.getElem?_take, if_pos (by omega)] at hi
    have := h i t (by omega) hi
    unfold okT at this
    simp only [Bool.and_eq_true, decide_eq_true_eq] at this
    exact this.2
  · have := congrArg List.length e
    rw [List.length_take, List.length_nil] at this
    omega

theorem putC_take {l : List TreeP} {k : Nat} {t : TreeP} (h : ∀ i t, i < k → l[i]? = some t → okT l t = true) (ht : l[k]? = some t) (hk : k < 16) : putC (l.take k) k t = (if okT l t = true then 0 else 100) ∧ (okT l t = true → putL (l.take k) k t = l.take (k + 1)) := by
  have hlt := (List.getElem?_eq_some_iff.1 ht).1
  have hlen : (l.take k).length = k := by rw [List.length_take]; omega
  have hC : putC (l.take k) k t = (if okT l t = true then 0 else 100) := by
    unfold putC
    rw [hlen, if_neg (by omega), if_neg (by omega), if_neg (by omega)]
    by_cases h1 : okT l t = true
    · rw [if_pos h1]
      unfold okT at h1
      simp only [Bool.and_eq_true, decide_eq_true_eq] at h1
      rw [if_neg (by simp [h1.1]), if_neg]
      rintro ⟨h2, h3, _⟩
      exact h3 (by rw [dimL_take h h2 (by omega)]; exact h1.2)
    · rw [if_neg h1]
      by_cases h2 : treeB t = false
      · rw [if_pos h2]
      · rw [if_neg h2, if_pos]
        have h3 : t.dim ≠ dim0 l := fun e => h1 (by unfold okT; simp [e]; simpa using h2)
        have h0 : 0 < k := by
          rcases Nat.eq_zero_or_pos k with rfl | h0
          · exact absurd (by unfold dim0; rw [ht]; rfl) h3
          · exact h0
        exact ⟨h0, by rw [dimL_take h h0 (by omega)]; exact h3, by omega⟩
  refine ⟨hC, fun h1 => ?_⟩
  unfold putL
  rw [if_pos (by rw [hC, if_pos h1]), List.take_of_length_le (by rw [hlen]; omega), List.drop_of_length_le (by rw [hlen]; omega), List.append_nil, List.take_add_one, ht]
  rfl

/-- An empty pack. -/
theorem pack_new {w1 w : World} {nv : Value} {B P : Nat} (hn : Ints .i64 w1 nv normsL) (hb : Below w1.heap.size w1 w) (hP : w1.heap.size ≤ P) (hr : RowAt w P 192 #[.int .i64 0, .slice none 0 0, .slice none 0 0, .slice none 0 0, .slice none 0 0, .slice none 0 0, .slice none 0 0, .slice none 0 0, nv]) :
    PackAt w B P [] [.slice none 0 0, .slice none 0 0, .slice none 0 0, .slice none 0 0, .slice none 0 0, .slice none 0 0, .slice none 0 0] nv := by
  have hB : rowsB [.slice none 0 0, .slice none 0 0, .slice none 0 0, .slice none 0 0, .slice none 0 0, .slice none 0 0, .slice none 0 0] = [] := rfl
  refine ⟨⟨hr.lt, rfl, (hr.cell 0).trans rfl, hr.frozen 0, fun k v hv => ?_, fun k v l hv hl => ?_, by rw [hB]; simp⟩, (hr.cell 8).trans rfl, hn.below hb, fun b o n c e => ?_, by simp, by simp⟩
  · rcases k with _ | _ | _ | _ | _ | _ | _ | k
    all_goals first
      | (simp only [List.getElem?_cons_succ, List.getElem?_cons_zero, Option.some.injEq] at hv; subst hv; exact ⟨(hr.cell _).trans rfl, hr.frozen _⟩)
      | (simp at hv; done)
  · rcases k with _ | _ | _ | _ | _ | _ | _ | k
    all_goals first
      | (simp only [flatL, List.getElem?_cons_succ, List.getElem?_cons_zero, Option.some.injEq] at hv hl; subst hv hl; exact World.ownsRow_nil _ _ _ _)
      | (simp at hv; done)
  · rw [hB]
    obtain ⟨a', c', e', _, _, _, hc'⟩ := hn
    rw [e] at e'
    injection e' with q1 _ _
    obtain ⟨b', o', q2, hb', _⟩ := hc' 0 _ (normsL_get (i := 0) (by omega))
    rw [← q1] at q2
    injection q2 with q2
    injection q2 with q2
    simp
    omega

set_option maxRecDepth 100000 in
set_option maxHeartbeats 4000000 in
theorem pack_of (v : Value) (l : List TreeP) (w : World) (h : TreesR w v l) :
    Calls Try.prog 60 #[v] w fun e w' => ∃ pv, e = .returned (.tuple #[pv, .int .i64 (ofC l)]) ∧ Below w.heap.size w w' ∧ (ofC l ≠ 0 → pv = .pointer none) ∧ (ofC l = 0 → ∃ P vs nv, pv = .pointer (some ⟨P, 0, none⟩) ∧ PackAt w' w.heap.size P l vs nv ∧ ∀ b, b ∈ P :: rowsB vs → w.heap.size ≤ b) := by
  have HTR := Lib.hid h
  obtain ⟨ad, cc, rfl, _, _, q3, hcell⟩ := h
  obtain ⟨n, hn⟩ : ∃ n, l.length = n := ⟨_, rfl⟩
  have HL := Lib.hid hn
  rw [hn] at q3 HTR ⊢
  clear hn
  by_cases h16 : 16 < n
  · have hO : ofC l = 3 := by unfold ofC; rw [if_pos (by rw [HL.out]; exact h16)]
    rw [hO]
    have h1 : (16 : Int) < n := by omega
    clear hcell hO
    go_enter Try.func60, Try.ntmps60
    go_wp2_with fail
    exact bodyPost_ret (v := .tuple #[.pointer none, .int .i64 3]) (by simp [results, Try.results60, go_sem]) rfl ⟨_, rfl, by (repeat (first | with_reducible exact Below.refl _ _ | with_reducible refine Bs ?_ | with_reducible refine Ba ?_ | with_reducible refine Bd ?_ | with_reducible refine Bn ?_)), fun _ => rfl, fun h => absurd h (by decide)⟩
  · obtain ⟨OC, hOC⟩ : ∃ c, ofC l = c := ⟨_, rfl⟩
    have HOC := Lib.hid (show OC = if allT l = false then 100 else 0 by rw [← hOC]; unfold ofC; rw [if_neg (by rw [HL.out]; exact h16)])
    rw [hOC]
    clear hOC
    have HC := Lib.hid (show ∀ i t, l[i]? = some t → ∃ b o nv, ad = some ⟨b, o, none⟩ ∧ b < w.heap.size ∧ w.cell? ⟨b, o + i * 2, none⟩ = some (.int .i64 t.dim) ∧ w.cell? ⟨b, o + i * 2 + 1, none⟩ = some nv ∧ NodesR w nv t.nodes from hcell)
    have h1 : ¬ (16 : Int) < n := by omega
    have HTB := Lib.hid (fun W => table_any W)
    clear hcell
    go_enter Try.func60, Try.ntmps60
    go_wp2_with fail
    (with_reducible refine (HTB.out _).mono ?_)
    rintro e w1 ⟨nv, rfl, hnv, hfr, hb1⟩
    have HNV := Lib.hid hnv
    obtain ⟨na, nc, rfl⟩ := hnv.shape
    have B1 := Lib.hid hb1
    have hz1 := hb1.size
    clear hnv hb1 hfr
    go_wp2_with fail
    obtain ⟨w2, hw2⟩ : ∃ W, w1.alloc (.cells #[.int .i64 0, .slice none 0 0, .slice none 0 0, .slice none 0 0, .slice none 0 0, .slice none 0 0, .slice none 0 0, .slice none 0 0, .slice na normsL.length nc] 192) = W := ⟨_, rfl⟩
    have HP0 := Lib.hid (show PackAt w2 w.heap.size w1.heap.size [] _ (.slice na normsL.length nc) from pack_new HNV.out (by rw [← hw2]; (repeat (first | with_reducible exact Below.refl _ _ | with_reducible refine Bs ?_ | with_reducible refine Ba ?_ | with_reducible refine Bd ?_ | with_reducible refine Bn ?_))) (Nat.le_refl _) (by rw [← hw2]; exact heap_alloc_new w1 _))
    have B2 := Lib.hid (show Below w.heap.size w w2 from by rw [← hw2]; (repeat (first | with_reducible exact Below.refl _ _ | with_reducible refine Bs ?_ | with_reducible refine Ba ?_ | with_reducible refine Bd ?_ | with_reducible refine Bn ?_ | with_reducible refine Bt B1.out ?_)))
    rw [hw2]
    clear hw2
    obtain ⟨P, hP⟩ : ∃ P, w1.heap.size = P := ⟨_, rfl⟩
    rw [hP] at HP0 hz1 ⊢
    clear hP
    go_loopw [5, 6, 15] (fun _ _ idx wr => ∃ (k : Nat) (vs : List Value), idx = .int .i64 k ∧ k ≤ n ∧ (∀ i t, i < k → l[i]? = some t → okT l t = true) ∧ PackAt wr w.heap.size P (l.take k) vs (.slice na normsL.length nc) ∧ (∀ b, b ∈ P :: rowsB vs → w.heap.size ≤ b) ∧ Below w.heap.size w wr) (fun _ _ idx _ => n - (intOf idx).toNat)
    case atStart => exact ⟨0, _, rfl, by omega, fun i t h => by omega, HP0.out, fun b hb => by rcases List.mem_cons.1 hb with rfl | hb; exact hz1; simp [rowsB, Value.ownBlock] at hb, B2.out⟩
    case round =>
      obtain ⟨k, vs, rfl, hk, hall, hp, hft, hbr⟩ := hrel
      have HA := Lib.hid hall
      have HP := Lib.hid hp
      have HF := Lib.hid hft
      have HBR := Lib.hid hbr
      have hsz := hbr.size
      have hPr := hp.fa.lt
      clear hall hp hft hbr HP0 B1 B2
      by_cases hlt : k < n
      · obtain ⟨t, ht⟩ := getElem?_ex (l := l) (k := k) (by rw [HL.out]; exact hlt)
        obtain ⟨b, o, tv, rfl, hb, c0, c1, hnv⟩ := HC.out k t ht
        have e0 := (HBR.out.cell (p := ⟨b, o + k * 2, none⟩) hb).trans c0
        have e1 := (HBR.out.cell (p := ⟨b, o + k * 2 + 1, none⟩) hb).trans c1
        have HT := Lib.hid (show TreeR w (.agg #[.int .i64 t.dim, tv]) t from ⟨tv, rfl, hnv⟩)
        obtain ⟨ta, tc, rfl, _⟩ := hnv
        have HK := Lib.hid ht
        have i1 : (0 : Int) ≤ (k : Int) := by omega
        have i2 : (k : Int) < (n : Int) := by omega
        have hbz : b < wr.heap.size := by omega
        have hbz2 : b ≠ wr.heap.size := by omega
        have hpc := putC_take HA.out ht (by omega)
        have HPC := Lib.hid hpc
        have HFP := Lib.hid (fun W (hW : Below wr.heap.size wr W) => fput_any (k : Int) _ t W (HP.out.below hW) (fun W' hW' => HT.out.below ((HBR.out.trans (hW.mono hsz)).trans (OnlyIn.below hW' HF.out (Nat.le_trans hsz hW.size)))) (Nat.le_trans hsz hW.size))
        clear c0 c1 ht
        by_cases hok : okT l t = true
        · rw [hpc.1, if_pos hok, hpc.2 hok] at HFP
          have HOK := Lib.hid hok
          clear hpc hok HPC
          go_wp2_with fail
          (with_reducible refine (HFP.out _ (by (repeat (first | with_reducible exact Below.refl _ _ | with_reducible refine Bs ?_ | with_reducible refine Ba ?_ | with_reducible refine Bd ?_ | with_reducible refine Bn ?_)))).mono ?_)
          rintro e w5 ⟨rfl, vs', hp', ho', hf'⟩
          have B5 := Lib.hid (show Below w.heap.size w w5 from below_tr (show Below w.heap.size w _ from by (repeat (first | with_reducible exact Below.refl _ _ | with_reducible refine Bs ?_ | with_reducible refine Ba ?_ | with_reducible refine Bd ?_ | with_reducible refine Bn ?_ | with_reducible refine Bt HBR.out ?_))) (OnlyIn.below ho' HF.out (by simp; omega)))
          have HP5 := Lib.hid hp'
          have HF5 := Lib.hid (show ∀ b, b ∈ P :: rowsB vs' → w.heap.size ≤ b from fun b hb => by
            rcases hf' b hb with h | h
            · exact HF.out b h
            · simp at h; omega)
          clear hp' ho' hf'
          go_wp2_with fail
          go_roundw
          case rel =>
            refine ⟨k + 1, vs', by go_num, by omega, fun i t' hi ht' => ?_, HP5.out, HF5.out, B5.out⟩
            rcases Nat.lt_or_ge i k with h | h
            · exact HA.out i t' h ht'
            · obtain rfl : i = k := by omega
              rw [HK.out] at ht'
              injection ht' with ht'
              subst ht'
              exact HOK.out
          case measure => simp [intOf] <;> omega
        · rw [hpc.1, if_neg hok] at HFP
          have HE := Lib.hid (show OC = 100 by rw [HOC.out, if_pos (allT_not HK.out (by simpa using hok))])
          clear hpc hok HPC
          go_wp2_with fail
          (with_reducible refine (HFP.out _ (by (repeat (first | with_reducible exact Below.refl _ _ | with_reducible refine Bs ?_ | with_reducible refine Ba ?_ | with_reducible refine Bd ?_ | with_reducible refine Bn ?_)))).mono ?_)
          rintro e w5 ⟨rfl, vs', hp', ho', hf'⟩
          have B5 := Lib.hid (show Below w.heap.size w w5 from below_tr (show Below w.heap.size w _ from by (repeat (first | with_reducible exact Below.refl _ _ | with_reducible refine Bs ?_ | with_reducible refine Ba ?_ | with_reducible refine Bd ?_ | with_reducible refine Bn ?_ | with_reducible refine Bt HBR.out ?_))) (OnlyIn.below ho' HF.out (by simp; omega)))
          clear hp' ho' hf'
          go_wp2_with fail
          exact bodyPost_ret (v := .tuple #[.pointer none, .int .i64 100]) (by simp [results, Try.results60, go_sem]) rfl ⟨_, by rw [HE.out], B5.out, fun _ => rfl, fun h => by rw [HE.out] at h; cases h⟩
      · have hkk : k = n := by omega
        subst hkk
        have HE := Lib.hid (show OC = 0 by
          rw [HOC.out, if_neg]
          have : allT l = true := by
            unfold allT
            rw [List.all_eq_true]
            intro t ht
            obtain ⟨i, hi⟩ := List.getElem?_of_mem ht
            exact HA.out i t (by have := (List.getElem?_eq_some_iff.1 hi).1; rw [HL.out] at this; exact this) hi
          simp [this])
        have HP5 := HP.out
        rw [List.take_of_length_le (by rw [HL.out]; exact Nat.le_refl _)] at HP5
        have HP6 := Lib.hid HP5
        clear HP5
        go_wp2_with fail
        exact bodyPost_ret (v := .tuple #[.pointer (some ⟨P, 0, none⟩), .int .i64 0]) (by simp [results, Try.results60, go_sem]) rfl ⟨_, by rw [HE.out], HBR.out, fun h => absurd HE.out h, fun _ => ⟨P, vs, _, rfl, HP6.out, HF.out⟩⟩
end Go.Proofs.Ytjmjnkilgoelbaa

namespace Go
/-- As Q; by a goto to a label: what J says of it. -/
def Exit.jumps (J : Nat → Act → World → Prop) (Q : Exit → Act → World → Prop) : Exit → Act → World → Prop
  | .goto l, a, w => J l a w
  | e, a, w => Q e a w

section
variable {P : Program} {a : Act} {w : World} {Q : Exit → Act → World → Prop}

theorem Exit.jumps_mono {J J' : Nat → Act → World → Prop} (h : ∀ l a w, J l a w → J' l a w) : ∀ e a w, Exit.jumps J Q e a w → Exit.jumps J' Q e a w
  | .goto l, a, w, k => h l a w k
  | .normal, _, _, k => k
  | .exit _, _, _, k => k
  | .ret, _, _, k => k
  | .panic _, _, _, k => k
  | .outgrown, _, _, k => k

/-- A scope in which the run jumps: what holds at every jump, and a measure that every pass from a label lowers. -/
theorem wp_scope_any {c : Code} (J : Nat → Act → World → Prop) (μ : Nat → Act → World → Nat) (first : c.wp P (Exit.jumps J Q) a w)
    (pass : ∀ l a w, J l a w → ∃ rest, findLabel c l = some rest ∧ rest.wp P (Exit.jumps (fun l' a' w' => J l' a' w' ∧ μ l' a' w' < μ l a w) Q) a w) : (Code.scope c).wp P Q a w := by
  intro b k cs
  have key : ∀ n l a w, μ l a w = n → J l a w → ∃ rest, findLabel c l = some rest ∧ ∃ e a' w', Q e a' w' ∧ Arrives P (lone (b.at a (.code rest :: .inScope c :: k)) cs w) b k cs e a' w' := by
    intro n
    induction n using Nat.strongRecOn with
    | _ n ih =>
      intro l a w hn hJ
      obtain ⟨rest, hf, hp⟩ := pass l a w hJ
      refine ⟨rest, hf, ?_⟩
      obtain ⟨e, a₁, w₁, hq, harr⟩ := hp b (.inScope c :: k) cs
      cases e with
      | normal => exact ⟨.normal, a₁, w₁, hq, Steps.trans harr (.one step_inScope)⟩
      | exit id => exact ⟨.exit id, a₁, w₁, hq, fun k' hk => harr k' (by simp [exitTo, hk])⟩
      | goto l' =>
        obtain ⟨hJ', hlt⟩ := hq
        obtain ⟨rest', hf', e₂, a₂, w₂, hq₂, harr₂⟩ := ih _ (by omega) l' a₁ w₁ rfl hJ'
        exact ⟨e₂, a₂, w₂, hq₂, .of_steps (harr _ (by simp [gotoIn, hf'])) harr₂⟩
      | ret => exact ⟨_, a₁, w₁, hq, harr⟩
      | panic ch => exact ⟨_, a₁, w₁, hq, harr⟩
      | outgrown => exact ⟨_, a₁, w₁, hq, harr⟩
  obtain ⟨e, a₁, w₁, hq, harr⟩ := first b (.inScope c :: k) cs
  cases e with
  | normal => exact ⟨.normal, a₁, w₁, hq, .head step_scope (Steps.trans harr (.one step_inScope))⟩
  | exit id => exact ⟨.exit id, a₁, w₁, hq, fun k' hk => .head step_scope (harr k' (by simp [exitTo, hk]))⟩
  | goto l' =>
    obtain ⟨rest', hf', e₂, a₂, w₂, hq₂, harr₂⟩ := key _ l' a₁ w₁ rfl hq
    exact ⟨e₂, a₂, w₂, hq₂, .of_steps (.head step_scope (harr _ (by simp [gotoIn, hf']))) harr₂⟩
  | ret => exact ⟨_, a₁, w₁, hq, .of_steps (.one step_scope) harr⟩
  | panic ch => exact ⟨_, a₁, w₁, hq, .of_steps (.one step_scope) harr⟩
  | outgrown => exact ⟨_, a₁, w₁, hq, .of_steps (.one step_scope) harr⟩

theorem wp_skips {x : Code} (h : x.wp P Q a w) : (Code.skip.seq x).wp P Q a w := wp_seq (wp_skip h)

/-- Two labels, the second one behind the first: each is walked once. -/
theorem wp_scope_two {c r0 r1 : Code} (J0 J1 : Act → World → Prop) (m0 m1 : Act → World → Nat) (hf0 : findLabel c 0 = some (Code.skip.seq r0)) (hf1 : findLabel c 1 = some (Code.skip.seq r1))
    (p1 : ∀ a w, J1 a w → r1.wp P (Exit.jumps (fun l a' w' => l = 0 ∧ J0 a' w' ∧ m0 a' w' < m1 a w ∨ l = 1 ∧ J1 a' w' ∧ m1 a' w' < m1 a w) Q) a w)
    (p0 : ∀ a w, J0 a w → (∀ a' w', J1 a' w' → m1 a' w' < m0 a w → r1.wp P (Exit.jumps (fun l a'' w'' => l = 0 ∧ J0 a'' w'' ∧ m0 a'' w'' < m0 a w ∨ l = 1 ∧ J1 a'' w'' ∧ m1 a'' w'' < m0 a w) Q) a' w') →
      r0.wp P (Exit.jumps (fun l a' w' => l = 0 ∧ J0 a' w' ∧ m0 a' w' < m0 a w ∨ l = 1 ∧ J1 a' w' ∧ m1 a' w' < m0 a w) Q) a w)
    (first : (∀ a' w', J0 a' w' → r0.wp P (Exit.jumps (fun l a'' w'' => l = 0 ∧ J0 a'' w'' ∨ l = 1 ∧ J1 a'' w'') Q) a' w') → c.wp P (Exit.jumps (fun l a'' w'' => l = 0 ∧ J0 a'' w'' ∨ l = 1 ∧ J1 a'' w'') Q) a w) : (Code.scope c).wp P Q a w := by
  have q0 : ∀ a w, J0 a w → r0.wp P (Exit.jumps (fun l a' w' => l = 0 ∧ J0 a' w' ∧ m0 a' w' < m0 a w ∨ l = 1 ∧ J1 a' w' ∧ m1 a' w' < m0 a w) Q) a w := fun a w hJ => p0 a w hJ fun a' w' hJ' hlt =>
    wp_mono (p1 a' w' hJ') (Exit.jumps_mono fun l a'' w'' h => h.imp (fun h => ⟨h.1, h.2.1, by omega⟩) fun h => ⟨h.1, h.2.1, by omega⟩)
  refine wp_scope_any (fun l a w => l = 0 ∧ J0 a w ∨ l = 1 ∧ J1 a w) (fun l a w => if l = 0 then m0 a w else m1 a w) (first fun a' w' hJ => wp_mono (q0 a' w' hJ) (Exit.jumps_mono fun l a'' w'' h => h.imp (fun h => ⟨h.1, h.2.1⟩) fun h => ⟨h.1, h.2.1⟩)) ?_
  rintro l a w (⟨rfl, hJ⟩ | ⟨rfl, hJ⟩)
  · refine ⟨_, hf0, wp_skips (wp_mono (q0 a w hJ) (Exit.jumps_mono fun l a'' w'' h => ?_))⟩
    rcases h with ⟨rfl, h1, h2⟩ | ⟨rfl, h1, h2⟩
    · exact ⟨.inl ⟨rfl, h1⟩, by simpa using h2⟩
    · exact ⟨.inr ⟨rfl, h1⟩, by simpa using h2⟩
  · refine ⟨_, hf1, wp_skips (wp_mono (p1 a w hJ) (Exit.jumps_mono fun l a'' w'' h => ?_))⟩
    rcases h with ⟨rfl, h1, h2⟩ | ⟨rfl, h1, h2⟩
    · exact ⟨.inl ⟨rfl, h1⟩, by simpa using h2⟩
    · exact ⟨.inr ⟨rfl, h1⟩, by simpa using h2⟩
end
end Go

namespace Go.Proofs.Ytjmjnkilgoelbaa
open Go.RowKit

theorem splitT_at {l : List TreeP} {j : Nat} {t : TreeP} (hj : l[j]? = some t) : l = l.take j ++ [t] ++ l.drop (j + 1) := by
  rw [List.append_assoc, List.singleton_append, (List.getElem?_eq_some_iff.1 hj).2.symm, List.getElem_cons_drop, List.take_append_drop]

theorem flat_get {f : TreeP → List Int} (hf : ∀ t, (f t).length = t.nodes.length) {l : List TreeP} {j : Nat} {t : TreeP} (hj : l[j]? = some t) {p : Nat} (hp : p < t.nodes.length) : (l.flatMap f)[lenTs (l.take j) + p]? = (f t)[p]? := by
  obtain ⟨s, hs⟩ : ∃ s, lenTs (l.take j) = s := ⟨_, rfl⟩
  rw [hs]
  conv => lhs; rw [splitT_at hj]
  rw [List.flatMap_append, List.flatMap_append, List.append_assoc, List.getElem?_append_right (by rw [flatMap_len hf]; omega), flatMap_len hf, hs, Nat.add_sub_cancel_left, List.flatMap_cons, List.flatMap_nil, List.append_nil, List.getElem?_append_left (by rw [hf]; exact hp)]

theorem left_get {l : List TreeP} {j : Nat} {t : TreeP} (hj : l[j]? = some t) {p : Nat} (hp : p < t.nodes.length) : (leftL 0 l)[lenTs (l.take j) + p]? = (leftT (lenTs (l.take j)) t)[p]? := by
  obtain ⟨s, hs⟩ : ∃ s, lenTs (l.take j) = s := ⟨_, rfl⟩
  rw [hs]
  conv => lhs; rw [splitT_at hj]
  rw [List.append_assoc, leftL_append, List.getElem?_append_right (by rw [leftL_len]; omega), leftL_len, hs, Nat.add_sub_cancel_left, Nat.zero_add, List.singleton_append, leftL, List.getElem?_append_left (by rw [leftT, List.length_map]; exact hp)]

theorem right_get {l : List TreeP} {j : Nat} {t : TreeP} (hj : l[j]? = some t) {p : Nat} (hp : p < t.nodes.length) : (rightL 0 l)[lenTs (l.take j) + p]? = (rightT (lenTs (l.take j)) t)[p]? := by
  obtain ⟨s, hs⟩ : ∃ s, lenTs (l.take j) = s := ⟨_, rfl⟩
  rw [hs]
  conv => lhs; rw [splitT_at hj]
  rw [List.append_assoc, rightL_append, List.getElem?_append_right (by rw [rightL_len]; omega), rightL_len, hs, Nat.add_sub_cancel_left, Nat.zero_add, List.singleton_append, rightL, List.getElem?_append_left (by rw [rightT, List.length_map]; exact hp)]

theorem const_get {f : NodeP → List Int} {d : Nat} : ∀ (l : List NodeP), (∀ n ∈ l, (f n).length = d) → ∀ {p k : Nat} {n : NodeP}, l[p]? = some n → k < d → (l.flatMap f)[p * d + k]? = (f n)[k]?
  | [], _, p, k, n, h, _ => by simp at h
  | m :: l, hf, 0, k, n, h, hk => by
    simp only [List.getElem?_cons_zero, Option.some.injEq] at h
    subst h
    rw [List.flatMap_cons, Nat.zero_mul, Nat.zero_add, List.getElem?_append_left (by rw [hf _ (by simp)]; exact hk)]
  | m :: l, hf, p + 1, k, n, h, hk => by
    rw [List.flatMap_cons, List.getElem?_append_right (by rw [hf _ (by simp), Nat.add_mul]; omega), hf _ (by simp), show (p + 1) * d + k - d = p * d + k by rw [Nat.add_mul]; omega]
    exact const_get l (fun n hn => hf n (by simp [hn])) (by simpa using h) hk

theorem coef_get {D : Nat} {l : List TreeP} (hall : ∀ t ∈ l, treeB t = true ∧ t.dim = (D : Int)) {j : Nat} {t : TreeP} (hj : l[j]? = some t) {p k : Nat} {n : NodeP} (hp : t.nodes[p]? = some n) (hk : k < D) : (coefsL l)[(lenTs (l.take j) + p) * D + k]? = (coefN (D : Int) n)[k]? := by
  obtain ⟨h1, h2⟩ := hall t (List.mem_of_getElem? hj)
  have hlen : (coefsL (l.take j)).length = lenTs (l.take j) * D := by
    have := coefsL_len (D := (D : Int)) (l.take j) fun x hx => hall x (List.mem_of_mem_take hx)
    rwa [Int.toNat_natCast] at this
  have hc : (coefT t).length = t.nodes.length * D := by rw [coefT_len h1, h2, Int.toNat_natCast]
  have hpl := (List.getElem?_eq_some_iff.1 hp).1
  have hin : p * D + k < t.nodes.length * D := by
    have : (p + 1) * D ≤ t.nodes.length * D := Nat.mul_le_mul_right _ (by omega)
    rw [Nat.add_mul] at this
    omega
  obtain ⟨s, hs⟩ : ∃ s, lenTs (l.take j) = s := ⟨_, rfl⟩
  rw [hs] at hlen ⊢
  conv => lhs; rw [splitT_at hj]
  unfold coefsL at hlen ⊢
  rw [List.flatMap_append, List.flatMap_append, List.append_assoc, List.getElem?_append_right (by rw [hlen, Nat.add_mul]; omega), hlen, show (s + p) * D + k - s * D = p * D + k by rw [Nat.add_mul]; omega, List.flatMap_cons, List.flatMap_nil, List.append_nil, List.getElem?_append_left (by rw [hc]; exact hin)]
  unfold coefT
  rw [h2]
  exact const_get _ (fun n hn => by have := coefN_len h1 hn; rw [h2, Int.toNat_natCast] at this; exact this) hp hk

/-- A node on the way of a vector. -/
def OnWay (t : TreeP) (x : List Int) (p : Nat) : Prop := ∃ e h s, Sub t p e h s ∧ (wayT t x h p).getLast? = (wayL t x).getLast?

theorem onWay_root {t : TreeP} (x : List Int) (h : treeB t = true) : OnWay t x 0 := by
  obtain ⟨_, _, g, s, q, h1, h2⟩ := treeB_true.1 h
  exact ⟨_, g, s, q, by rw [show wayL t x = wayT t x g 0 from (q.way x 6 (Nat.le_trans h2 (logI_le h1))).1]⟩

theorem last_cons {i : Nat} {l : List Nat} (h : l ≠ []) : (i :: l).getLast? = l.getLast? := by
  cases l with
  | nil => exact absurd rfl h
  | cons a l => simp

theorem OnWay.next {t : TreeP} {x : List Int} {p : Nat} {n : NodeP} (h : OnWay t x p) (hn : t.nodes[p]? = some n) (hl : leafB n = false) :
    ∃ m : Nat, n.left = (p : Int) + 1 ∧ n.right = (m : Int) ∧ p + 1 < m ∧ m < t.nodes.length ∧ cutB n.coef n.at_ t.dim = true ∧ (leftB n x = true → OnWay t x (p + 1)) ∧ (leftB n x = false → OnWay t x m) := by
  obtain ⟨e, g, s, q, hw⟩ := h
  rcases q.inv hn with ⟨hl', _⟩ | ⟨m, a, b, x', y, k1, k2, k3, k4, k5, k6, rfl, k8⟩
  · rw [hl] at hl'; cases hl'
  · have l1 := k3.lt; have l2 := k5.lt
    have hl0 : ¬ n.left = 0 := by omega
    have hmt : n.right.toNat = m := by omega
    rw [Nat.add_comm 1 (max a b), wayT_node hn hl0, hmt, last_cons (wayT_ne _ _ _ _)] at hw
    refine ⟨m, k1, k4, l1.1, by omega, k2, fun hb => ?_, fun hb => ?_⟩
    · rw [if_pos hb, (k3.way x (max a b) (by omega)).1] at hw
      exact ⟨_, _, _, k3, hw⟩
    · rw [if_neg (by simp [hb]), (k5.way x (max a b) (by omega)).1] at hw
      exact ⟨_, _, _, k5, hw⟩

theorem Sub.wayDep' {t : TreeP} {i e h : Nat} {s : Int} (q : Sub t i e h s) (x : List Int) : ∀ j, (wayT t x h i).getLast? = some j → depT t h i j + 1 = (wayT t x h i).length := by
  induction q with
  | @leaf i n hn hl =>
    intro j hj
    rw [wayT_leaf hn (leafB_is hl).1] at hj ⊢
    obtain rfl : i = j := by simpa using hj
    rw [depT_self]; rfl
  | @node i m e a b x' y n hn hl hc q1 hr q2 hs ih1 ih2 =>
    intro j hj
    have hl0 : ¬ n.left = 0 := by omega
    have hmt : n.right.toNat = m := by omega
    have l1 := q1.lt; have l2 := q2.lt
    rw [Nat.add_comm 1 (max a b), wayT_node hn hl0, hmt] at hj ⊢
    obtain ⟨j1, n1, g1, g2, g3, _⟩ := q1.wayLeaf x
    obtain ⟨j2, n2, k1, k2, k3, _⟩ := q2.wayLeaf x
    by_cases hb : leftB n x = true
    · rw [if_pos hb, (q1.way x (max a b) (by omega)).1] at hj ⊢
      rw [List.getLast?_cons, g1] at hj
      obtain rfl : j1 = j := by simpa using hj
      have := ih1 j1 g1
      rw [depT_left hn (by omega) (by omega), (q1.dep _ (Nat.le_max_left a b) _ (by omega) g3).1, List.length_cons, ← this]
    · rw [if_neg hb, (q2.way x (max a b) (by omega)).1] at hj ⊢
      rw [List.getLast?_cons, k1] at hj
      obtain rfl : j2 = j := by simpa using hj
      have := ih2 j2 k1
      rw [depT_right hn (by omega) (by omega), hmt, (q2.dep _ (Nat.le_max_right a b) _ (by omega) k3).1, List.length_cons, ← this]

theorem OnWay.leaf {t : TreeP} {x : List Int} {p : Nat} {n : NodeP} (h : OnWay t x p) (hT : treeB t = true) (hn : t.nodes[p]? = some n) (hl : n.left = 0) : lenV t x = addN t p n := by
  have hI := treeB_true.1 hT
  obtain ⟨e', g', s', q0, hw0⟩ := h
  rw [wayT_leaf hn hl] at hw0
  obtain ⟨_, _, g, s, q, h1, h2⟩ := hI
  have h6 : g ≤ 6 := Nat.le_trans h2 (logI_le h1)
  have ew : wayL t x = wayT t x g 0 := (q.way x 6 h6).1
  have k1 : (wayT t x g 0).getLast? = some p := by rw [← ew, ← hw0]; rfl
  have hd := q.wayDep' x p k1
  have hdf := (q.dep 6 h6 p (by omega) (List.getElem?_eq_some_iff.1 hn).1).1
  have hV : lenV t x = (((wayL t x).length - 1 : Nat) : Int) * 1073741824 + normI n.size := by
    unfold lenV
    rw [← hw0]
    simp [hn]
  rw [hV]
  unfold addN depOf
  rw [if_pos hl, hdf, ew]
  have : depT t g 0 p = (wayT t x g 0).length - 1 := by omega
  rw [this]
end Go.Proofs.Ytjmjnkilgoelbaa
