/-
  Laws15c: The walk of FlatPuts.
-/
import Derived.Test.YtjmjnkilgoelbaaKLaws15
import Derived.Test.YtjmjnkilgoelbaaKFlatY
import Derived.Test.YtjmjnkilgoelbaaJ2b
import Derived.Test.YtjmjnkilgoelbaaKFlatZ
import Derived.Test.YtjmjnkilgoelbaaKArgPuts
namespace Go.Proofs.Ytjmjnkilgoelbaa
open Go.RowKit

theorem ofR_C3 (l : List TreeP) : ofR l = ofC l := rfl

/-- The list that the law keeps: its trees' nodes lie where they came in. -/
def NowR (w U : World) (F : List Nat) (v : Value) (L : List TreeP) : Prop :=
  ∃ (ps : List (TreeP × Value)) (a : Option Addr) (c : Nat), ps.map (·.1) = L ∧ (∀ p ∈ ps, NodesR w p.2 p.1.nodes) ∧ v = .slice a L.length c ∧ L.length ≤ c ∧ c ≤ 9223372036854775807 ∧
    ∀ (k : Nat) (p : TreeP × Value), ps[k]? = some p → ∃ b o, a = some ⟨b, o, none⟩ ∧ Apart U F b ∧ U.cell? ⟨b, o + k * 2, none⟩ = some (.int .i64 p.1.dim) ∧ U.cell? ⟨b, o + k * 2 + 1, none⟩ = some p.2

theorem NowR.step {w U U' : World} {F F' : List Nat} {v : Value} {L : List TreeP} (h : NowR w U F v L) (k : OnlyIn F U U') (hf : ∀ x, x ∈ F' → x ∈ F ∨ U.heap.size ≤ x) : NowR w U' F' v L := by
  obtain ⟨ps, a, c, h1, h2, h3, h4, h5, h6⟩ := h
  refine ⟨ps, a, c, h1, h2, h3, h4, h5, fun j p hp => ?_⟩
  obtain ⟨b, o, e, ha, c0, c1⟩ := h6 j p hp
  obtain ⟨g1, g2⟩ := ha.step k hf
  exact ⟨b, o, e, g1, (World.cell?_of_block (a := ⟨b, _, none⟩) g2).trans c0, (World.cell?_of_block (a := ⟨b, _, none⟩) g2).trans c1⟩

theorem NowR.trees {w U : World} {F : List Nat} {v : Value} {L : List TreeP} (h : NowR w U F v L) (hb : Below w.heap.size w U) (hl : L.length ≤ 1000) : TreesR U v L := by
  obtain ⟨ps, a, c, h1, h2, h3, h4, h5, h6⟩ := h
  refine ⟨a, c, h3, h4, h5, by omega, fun i t hi => ?_⟩
  rw [← h1, List.getElem?_map] at hi
  cases hp : ps[i]? with
  | none => rw [hp] at hi; cases hi
  | some p =>
    rw [hp] at hi
    obtain rfl : p.1 = t := by simpa using hi
    obtain ⟨b, o, e, ha, c0, c1⟩ := h6 i p hp
    exact ⟨b, o, p.2, e, ha.1, c0, c1, (h2 p (List.mem_of_getElem? hp)).below hb⟩

theorem NowR.start {w U : World} {F : List Nat} {v : Value} {L : List TreeP} (h : TreesR w v L) (hb : Below w.heap.size w U) (hF : ∀ x, x ∈ F → w.heap.size ≤ x) : NowR w U F v L := by
  obtain ⟨ps, h1, h2, a, c, e, h3⟩ := trees_vals h
  obtain ⟨a', c', e', g1, g2, _, _⟩ := h
  rw [e] at e'
  injection e' with e1 _ e3
  subst e1 e3
  refine ⟨ps, a, c, h1, h2, e, g1, g2, fun k p hp => ?_⟩
  obtain ⟨b, o, e, c0, c1⟩ := h3 k p hp
  have hlt : b < w.heap.size := World.block_lt_of_cell? _ _ c0
  exact ⟨b, o, e, ⟨Nat.lt_of_lt_of_le hlt hb.size, fun hm => by have := hF b hm; omega⟩, (hb.cell (p := ⟨b, _, none⟩) hlt).trans c0, (hb.cell (p := ⟨b, _, none⟩) hlt).trans c1⟩

theorem NowR.put {w wr U : World} {F : List Nat} {L : List TreeP} {z : Int} {t : TreeP} {na : Option Addr} {nc : Nat} {tv v5 : Value} {ps : List (TreeP × Value)} (h : NowR w wr F (.slice na L.length nc) L) (hF : ∀ b, b ∈ F → b < wr.heap.size) (hU : Below wr.heap.size wr U)
    (hp2 : ∀ p ∈ ps, NodesR w p.2 p.1.nodes) (ht : NodesR w tv t.nodes) (h0 : putC L z t ≠ 0 → v5 = .slice na L.length nc)
    (h1 : putC L z t = 0 → ∃ (ps' : List (TreeP × Value)) (a' : Option Addr) (c' : Nat), v5 = .slice a' (putL L z t).length c' ∧ (putL L z t).length ≤ c' ∧ c' ≤ 9223372036854775807 ∧ ps'.map (·.1) = putL L z t ∧ (∀ p ∈ ps', p ∈ ps ∨ p = (t, tv)) ∧ ∀ (k : Nat) (p : TreeP × Value), ps'[k]? = some p → ∃ b o, a' = some ⟨b, o, none⟩ ∧ wr.heap.size ≤ b ∧ b < U.heap.size ∧ U.cell? ⟨b, o + k * 2, none⟩ = some (.int .i64 p.1.dim) ∧ U.cell? ⟨b, o + k * 2 + 1, none⟩ = some p.2) :
    NowR w U F v5 (putL L z t) := by
  by_cases hc : putC L z t = 0
  · obtain ⟨ps', a', c', g1, g2, g3, g4, g5, g6⟩ := h1 hc
    refine ⟨ps', a', c', g4, fun p hp => ?_, g1, g2, g3, fun k p hp => ?_⟩
    · rcases g5 p hp with e | rfl
      · exact hp2 p e
      · exact ht
    · obtain ⟨b, o, e, hb, hlt, c0, c1⟩ := g6 k p hp
      exact ⟨b, o, e, ⟨hlt, fun hm => by have := hF b hm; omega⟩, c0, c1⟩
  · rw [h0 hc, putL_no rfl hc]
    exact h.step (OnlyIn.ofBelow hU) fun x hx => .inl hx

theorem NowR.len {w U : World} {F : List Nat} {v : Value} {L : List TreeP} (h : NowR w U F v L) : ∃ a c, v = .slice a L.length c := by
  obtain ⟨ps, a, c, _, _, e, _⟩ := h
  exact ⟨a, c, e⟩

set_option maxRecDepth 100000 in
set_option maxHeartbeats 8000000 in
theorem flatPuts_walk {w : World} (v : Value) (l : List TreeP) (hv : ArgTrees w v l) (v2 : Value) (puts : List (Int × TreeP)) (hm : ArgPuts w v2 puts) :
    Calls Try.prog 13 #[v, v2] w fun e w' => e = .returned (.bool true) ∧ Below w.heap.size w w' := by
  have HM := Lib.hid (fun W (hb : Below w.heap.size w W) => rmuch12_any v l W (hv.below hb))
  have HTT := Lib.hid (fun (h : muchT l = false) => hv.trees h)
  obtain ⟨ad, cc, rfl, hd1, hd2, _⟩ := hv
  obtain ⟨am, mc, rfl, hm1, hm2, hcell⟩ := hm
  have HPC := Lib.hid hcell
  clear hcell
  obtain ⟨m, hmn⟩ : ∃ n, puts.length = n := ⟨_, rfl⟩
  have HMN := Lib.hid hmn
  rw [hmn] at hm1 ⊢
  have hmx : (m : Int) ≤ 9223372036854775807 := by omega
  clear hmn
  obtain ⟨M, hM⟩ : ∃ M, muchT l = M := ⟨_, rfl⟩
  rw [hM] at HM HTT
  clear hM
  obtain ⟨n, hn⟩ : ∃ n, l.length = n := ⟨_, rfl⟩
  have HN := Lib.hid hn
  rw [hn] at HM HTT hd1 ⊢
  have hnn : (n : Int) ≤ 9223372036854775807 := by omega
  clear hn
  cases M with
  | true =>
    clear HTT
    go_enter Try.func13, Try.ntmps13
    go_wp2_with fail
    (with_reducible refine (HM.out _ (by (repeat (first | with_reducible exact Below.refl _ _ | with_reducible refine Bs ?_ | with_reducible refine Ba ?_ | with_reducible refine Bd ?_ | with_reducible refine Bn ?_)))).mono ?_)
    rintro e w1 ⟨rfl, b1⟩
    have B1 := Lib.hid b1
    have hz1 := b1.size
    clear b1
    go_wp2_with fail
    (with_reducible refine (lives15_any _).mono ?_)
    rintro e w2 ⟨rfl, b2⟩
    have B2 := Lib.hid (show Below w.heap.size w w2 from B1.out.trans (b2.mono hz1))
    clear b2
    go_wp2_with fail
    go_ret
    exact ⟨by first | rfl | trivial, B2.out⟩

  | false =>
    have HT := Lib.hid (HTT.out rfl)
    by_cases h20 : 20 < m
    · have h21 : (20 : Int) < m := by omega
      go_enter Try.func13, Try.ntmps13
      go_wp2_with fail
      (with_reducible refine (HM.out _ (by (repeat (first | with_reducible exact Below.refl _ _ | with_reducible refine Bs ?_ | with_reducible refine Ba ?_ | with_reducible refine Bd ?_ | with_reducible refine Bn ?_)))).mono ?_)
      rintro e w1 ⟨rfl, b1⟩
      have B1 := Lib.hid b1
      have hz1 := b1.size
      clear b1
      go_wp2_with fail
      (with_reducible refine (lives15_any _).mono ?_)
      rintro e w2 ⟨rfl, b2⟩
      have B2 := Lib.hid (show Below w.heap.size w w2 from B1.out.trans (b2.mono hz1))
      clear b2
      go_wp2_with fail
      go_ret
      exact ⟨by first | rfl | trivial, B2.out⟩

    · have h21 : ¬ (20 : Int) < m := by omega
      have h1 := fun W (hb : Below w.heap.size w W) => pack_of _ l W (HT.out.below hb)
      have h2 := fun W (hb : Below w.heap.size w W) => r15of_any _ l W (HT.out.below hb)
      rw [ofR_C3] at h2
      obtain ⟨C, hC⟩ : ∃ C, ofC l = C := ⟨_, rfl⟩
      rw [hC] at h1 h2
      have H1 := Lib.hid h1
      have HOF := Lib.hid h2
      clear h1 h2 hC HTT
      by_cases hC0 : C = 0
      · subst hC0
        go_enter Try.func13, Try.ntmps13
        go_wp2_with fail
        (with_reducible refine (HM.out _ (by (repeat (first | with_reducible exact Below.refl _ _ | with_reducible refine Bs ?_ | with_reducible refine Ba ?_ | with_reducible refine Bd ?_ | with_reducible refine Bn ?_)))).mono ?_)
        rintro e w1 ⟨rfl, b1⟩
        have B1 := Lib.hid b1
        have hz1 := b1.size
        clear b1
        go_wp2_with fail
        (with_reducible refine (HOF.out _ (by (repeat (first | with_reducible exact Below.refl _ _ | with_reducible refine Bs ?_ | with_reducible refine Ba ?_ | with_reducible refine Bd ?_ | with_reducible refine Bn ?_ | with_reducible refine Bt B1.out ?_)))).mono ?_)
        rintro e w2 ⟨rfl, b2⟩
        have B2 := Lib.hid (show Below w.heap.size w w2 from B1.out.trans (b2.mono hz1))
        have hz2 := B2.out.size
        clear b2
        go_wp2_with fail
        (with_reducible refine (H1.out _ (by (repeat (first | with_reducible exact Below.refl _ _ | with_reducible refine Bs ?_ | with_reducible refine Ba ?_ | with_reducible refine Bd ?_ | with_reducible refine Bn ?_ | with_reducible refine Bt B2.out ?_)))).mono ?_)
        rintro e w3 ⟨pv, rfl, b3, _, hok⟩
        obtain ⟨P, vs, nv, rfl, hp, hf⟩ := hok (by first | trivial | rfl)
        have B3 := Lib.hid (show Below w.heap.size w w3 from B2.out.trans (b3.mono hz2))
        have HP := Lib.hid hp
        have hz3 := B3.out.size
        have hb23 := b3.size
        have HF := Lib.hid (show ∀ b, b ∈ P :: rowsB vs → w.heap.size ≤ b from fun b hb => Nat.le_trans hz2 (hf b hb))
        obtain ⟨BB, hBB⟩ : ∃ z, w2.heap.size = z := ⟨_, rfl⟩
        rw [hBB] at HP hb23
        have HBB := Lib.hid hb23
        have NW := Lib.hid (NowR.start (U := w3) (F := P :: rowsB vs) HT.out B3.out HF.out)
        clear b3 hok hp hf hBB hb23
        go_wp2_with fail
        go_loopw [7, 8, 9, 10] (fun nowv i _ _ wr => ∃ (k : Nat) (L : List TreeP) (vs : List Value), i = .int .i64 k ∧ k ≤ m ∧ PackAt wr BB P L vs nv ∧ (∀ b, b ∈ P :: rowsB vs → w.heap.size ≤ b) ∧ NowR w wr (P :: rowsB vs) nowv L ∧ Below w.heap.size w wr ∧ BB ≤ wr.heap.size) (fun _ i _ _ _ => m - (intOf i).toNat)
        case atStart => exact ⟨0, l, vs, rfl, by omega, HP.out, HF.out, NW.out, B3.out, HBB.out⟩
        case round =>
          obtain ⟨k, L, vs, rfl, hk, hp, hfo, hnow, hbr, hbb⟩ := hrel
          have HPR := Lib.hid hp
          have HFO := Lib.hid hfo
          have HNW := Lib.hid hnow
          have BR := Lib.hid hbr
          have HBR := Lib.hid hbb
          have hzr0 := hbr.size
          obtain ⟨ps, na, nc, hp1, hp2, hnv, hp4, hp5, hp6⟩ := hnow
          have HP1 := Lib.hid hp1
          have HP2 := Lib.hid hp2
          have HP3 := Lib.hid hp6
          subst hnv
          clear hp hfo hbr hbb hp1 hp2 hp6 HP HF NW
          by_cases hlt : k < m
          · obtain ⟨q, hq⟩ := getElem?_ex (l := puts) (k := k) (by rw [HMN.out]; exact hlt)
            obtain ⟨b, o, nw, rfl, hb, c0, hwf, c1, c2, hna⟩ := HPC.out k q hq
            have e0 := (BR.out.cell (p := ⟨b, o + k * 3, none⟩) hb).trans c0
            have e1 := (BR.out.cell (p := ⟨b, o + k * 3 + 1, none⟩) hb).trans c1
            have e2 := (BR.out.cell (p := ⟨b, o + k * 3 + 2, none⟩) hb).trans c2
            obtain ⟨z, t⟩ := q
            dsimp only at e0 e1 e2 hna hwf
            have HAT := Lib.hid (show ArgTree w (.agg #[.int .i64 t.dim, nw]) t from ⟨nw, rfl, hna⟩)
            obtain ⟨ta, tc, rfl, htc1, htc2, _⟩ := hna
            have hbz : b < wr.heap.size := by omega
            have i1 : (0 : Int) ≤ (k : Int) := by omega
            have i2 : (k : Int) < (m : Int) := by omega
            obtain ⟨MN, hMN⟩ : ∃ b, muchN t.nodes = b := ⟨_, rfl⟩
            have HMU := Lib.hid (fun W (hW : Below w.heap.size w W) => rmuch_any _ t W (HAT.out.below hW))
            have HTR := Lib.hid (fun (h : muchN t.nodes = false) => HAT.out.tree h)
            rw [hMN] at HMU HTR
            obtain ⟨tm, htm⟩ : ∃ d, t.nodes.length = d := ⟨_, rfl⟩
            obtain ⟨td, htd⟩ : ∃ d, t.dim = d := ⟨_, rfl⟩
            rw [htm] at e2 HMU HTR HAT htc1
            rw [htd] at e1 HMU HTR HAT
            have HTM := Lib.hid htm
            have HTD := Lib.hid htd
            have hz32 := hwf
            clear c0 c1 c2 hq hMN htm htd hwf
            cases MN with
            | true =>
              go_wp2_with fail
              (with_reducible refine (HMU.out _ (by (repeat (first | with_reducible exact Below.refl _ _ | with_reducible refine Bs ?_ | with_reducible refine Ba ?_ | with_reducible refine Bd ?_ | with_reducible refine Bn ?_ | with_reducible refine Bt BR.out ?_)))).mono ?_)
              rintro e w4 ⟨rfl, b4⟩
              have B4 := Lib.hid (show Below w.heap.size w w4 from below_tr BR.out (b4.mono hzr0))
              have hz4 := B4.out.size
              clear b4
              go_wp2_with fail
              (with_reducible refine (lives15_any _).mono ?_)
              rintro e w5 ⟨rfl, b5⟩
              have B5 := Lib.hid (show Below w.heap.size w w5 from B4.out.trans (b5.mono hz4))
              clear b5
              go_wp2_with fail
              go_ret
              exact ⟨by first | rfl | trivial, B5.out⟩

            | false =>
              have HTR := Lib.hid (HTR.out rfl)
              obtain ⟨L2, hL2⟩ : ∃ x, putL L z t = x := ⟨_, rfl⟩
              obtain ⟨C, hC⟩ : ∃ x, putC L z t = x := ⟨_, rfl⟩
              have HL2 := Lib.hid hL2
              have HC := Lib.hid hC
              have hLm := HPR.out.many
              have htn0 : NodesR w (.slice ta tm tc) t.nodes := by
                obtain ⟨nv', e, h⟩ := HTR.out
                injection e with e
                injection e with e
                simp at e
                rw [e.2]
                exact h
              have hrp : ∀ W, Below wr.heap.size wr W → Calls Try.prog 74 #[.slice na L.length nc, .int .i64 z, .agg #[.int .i64 td, .slice ta tm tc]] W fun e w' => ∃ v', e = .returned (.tuple #[v', .int .i64 (putC L z t)]) ∧ Below W.heap.size W w' ∧ NowR w w' (P :: rowsB vs) v' (putL L z t) := fun W hW =>
                (rput_any na nc (.agg #[.int .i64 td, .slice ta tm tc]) (.slice ta tm tc) ps L t z W HP1.out (fun p hp => (HP2.out p hp).below (BR.out.trans (hW.mono hzr0))) (fun j p hp => by
                  obtain ⟨b', o', e, ha, g0, g1⟩ := HP3.out j p hp
                  exact ⟨b', o', e, (hW.cell (p := ⟨b', _, none⟩) ha.1).trans g0, (hW.cell (p := ⟨b', _, none⟩) ha.1).trans g1⟩) (by rw [HTD.out]) (htn0.below (BR.out.trans (hW.mono hzr0))) HPR.out.ok hLm).mono (by
                  rintro e w' ⟨v', rfl, b1, g0, g1⟩
                  exact ⟨v', rfl, b1, HNW.out.put (fun b hb => HPR.out.fa.foot hb) (hW.trans (b1.mono hW.size)) HP2.out htn0 g0 (fun hc => by
                    obtain ⟨ps', a', c', q1, q2, q3, q4, q5, q6⟩ := g1 hc
                    exact ⟨ps', a', c', q1, q2, q3, q4, q5, fun k p hp => by
                      obtain ⟨b, o, e, hb, r⟩ := q6 k p hp
                      exact ⟨b, o, e, Nat.le_trans hW.size hb, r⟩⟩)⟩)
              have hpu := fun W (hW : Below wr.heap.size wr W) => fput_any z (.agg #[.int .i64 td, .slice ta tm tc]) t W (HPR.out.below hW) (fun W' k => HTR.out.below ((BR.out.trans (hW.mono hzr0)).trans (k.below HFO.out (Nat.le_trans hzr0 hW.size)))) (Nat.le_trans HBR.out hW.size)
              rw [hL2, hC] at hpu
              have HPU := Lib.hid hpu
              clear hpu htn0
              rw [hL2, hC] at hrp
              have HRP := Lib.hid hrp
              obtain ⟨ll, hll⟩ : ∃ x, L.length = x := ⟨_, rfl⟩
              rw [hll] at HRP hp4 hLm ⊢
              have HLL := Lib.hid hll
              clear hrp hL2 hC hll
              go_wp2_with fail
              (with_reducible refine (HMU.out _ (by (repeat (first | with_reducible exact Below.refl _ _ | with_reducible refine Bs ?_ | with_reducible refine Ba ?_ | with_reducible refine Bd ?_ | with_reducible refine Bn ?_ | with_reducible refine Bt BR.out ?_)))).mono ?_)
              rintro e w4 ⟨rfl, b4⟩
              have B4 := Lib.hid b4
              have x0 := (b4.cell (p := ⟨b, o + k * 3, none⟩) hbz).trans e0
              have x1 := (b4.cell (p := ⟨b, o + k * 3 + 1, none⟩) hbz).trans e1
              have x2 := (b4.cell (p := ⟨b, o + k * 3 + 2, none⟩) hbz).trans e2
              have hz4 := b4.size
              have hb4 : b < w4.heap.size := by omega
              clear b4 e0 e1 e2
              go_upto_region 12 with fail
              refine wp_region_held_drew (S := fun w' => w'.cell? ⟨b, o + k * 3, none⟩ = some (.int .i64 z) ∧ w'.cell? ⟨b, o + k * 3 + 1, none⟩ = some (.int .i64 td) ∧ w'.cell? ⟨b, o + k * 3 + 2, none⟩ = some (.slice ta tm tc)) (by kernel_rfl) ?_ (fun hHeld => ?_); (focus (first | with_reducible exact True.intro | ((try dsimp only); and_intros <;> first | (go_simp; done) | (go_keep; done)))); (refine lexTk 0 (v := ?_) rfl hHeld ?_ (by kernel_rfl) (fun _ _ _ h => h) ?_ ?_; rotate_left 2; (focus rfl); (focus (intro w hSw; (try dsimp only at hSw); first | (go_simp; done) | (go_simp; with_reducible rfl)))); (try simp only [Act.put, List.setIfInBounds_toArray, List.set_cons_zero, List.set_cons_succ]); (refine lexTk 1 (v := ?_) rfl hHeld ?_ (by kernel_rfl) (fun _ _ _ h => h) ?_ ?_; rotate_left 2; (focus rfl); (focus (intro w hSw; (try dsimp only at hSw); first | (go_simp; done) | (go_simp; with_reducible rfl)))); (try simp only [Act.put, List.setIfInBounds_toArray, List.set_cons_zero, List.set_cons_succ]); (refine lexTk 2 (v := ?_) rfl hHeld ?_ (by kernel_rfl) (fun _ _ _ h => h) ?_ ?_; rotate_left 2; (focus rfl); (focus (intro w hSw; (try dsimp only at hSw); first | (go_simp; done) | (go_simp; with_reducible rfl)))); (try simp only [Act.put, List.setIfInBounds_toArray, List.set_cons_zero, List.set_cons_succ]); (refine lexTk 3 (v := ?_) rfl hHeld ?_ (by kernel_rfl) (fun _ _ _ h => h) ?_ ?_; rotate_left 2; (focus rfl); (focus (intro w hSw; (try dsimp only at hSw); first | (go_simp; done) | (go_simp; with_reducible rfl)))); (try simp only [Act.put, List.setIfInBounds_toArray, List.set_cons_zero, List.set_cons_succ]); (refine lexTk 4 (v := ?_) rfl hHeld ?_ (by kernel_rfl) (fun _ _ _ h => h) ?_ ?_; rotate_left 2; (focus rfl); (focus (intro w hSw; (try dsimp only at hSw); first | (go_simp; done) | (go_simp; with_reducible rfl)))); (try simp only [Act.put, List.setIfInBounds_toArray, List.set_cons_zero, List.set_cons_succ]); (refine lexTk 5 (v := ?_) rfl hHeld ?_ (by kernel_rfl) (fun _ _ _ h => h) ?_ ?_; rotate_left 2; (focus rfl); (focus (intro w hSw; (try dsimp only at hSw); first | (go_simp; done) | (go_simp; with_reducible rfl)))); (try simp only [Act.put, List.setIfInBounds_toArray, List.set_cons_zero, List.set_cons_succ]); (refine lexTk 6 (v := ?_) rfl hHeld ?_ (by kernel_rfl) (fun _ _ _ h => h) ?_ ?_; rotate_left 2; (focus rfl); (focus (intro w hSw; (try dsimp only at hSw); first | (go_simp; done) | (go_simp; with_reducible rfl)))); (try simp only [Act.put, List.setIfInBounds_toArray, List.set_cons_zero, List.set_cons_succ]); (refine lexTk 7 (v := ?_) rfl hHeld ?_ (by kernel_rfl) (fun _ _ _ h => h) ?_ ?_; rotate_left 2; (focus rfl); (focus (intro w hSw; (try dsimp only at hSw); first | (go_simp; done) | (go_simp; with_reducible rfl)))); (try simp only [Act.put, List.setIfInBounds_toArray, List.set_cons_zero, List.set_cons_succ]); (refine lexTk 8 (v := ?_) rfl hHeld ?_ (by kernel_rfl) (fun _ _ _ h => h) ?_ ?_; rotate_left 2; (focus rfl); (focus (intro w hSw; (try dsimp only at hSw); first | (go_simp; done) | (go_simp; with_reducible rfl)))); (try simp only [Act.put, List.setIfInBounds_toArray, List.set_cons_zero, List.set_cons_succ]); (refine lexTk 9 (v := ?_) rfl hHeld ?_ (by kernel_rfl) (fun _ _ _ h => h) ?_ ?_; rotate_left 2; (focus rfl); (focus (intro w hSw; (try dsimp only at hSw); first | (go_simp; done) | (go_simp; with_reducible rfl)))); (try simp only [Act.put, List.setIfInBounds_toArray, List.set_cons_zero, List.set_cons_succ]); (refine lexTk 10 (v := ?_) rfl hHeld ?_ (by kernel_rfl) (fun _ _ _ h => h) ?_ ?_; rotate_left 2; (focus rfl); (focus (intro w hSw; (try dsimp only at hSw); first | (go_simp; done) | (go_simp; with_reducible rfl)))); (try simp only [Act.put, List.setIfInBounds_toArray, List.set_cons_zero, List.set_cons_succ]); refine lexHv 11 rfl ?_ (by kernel_rfl); (intro K hK); (go_simp; (go_at_call 74); ((with_reducible refine (HRP.out _ (by (repeat (first | with_reducible exact Below.refl _ _ | with_reducible refine Bs ?_ | with_reducible refine Ba ?_ | with_reducible refine Bd ?_ | with_reducible refine Bn ?_ | with_reducible refine Bt B4.out ?_)))).mono ?_)); (rintro e w5 ⟨v5, rfl, b5, hn5⟩); (have s0 : w5.cell? ⟨b, o + k * 3, none⟩ = some (.int .i64 z) := (b5.cell (p := ⟨b, o + k * 3, none⟩) (by first | omega | (simp; done) | (simp; omega))).trans (by go_simp)); (have s1 : w5.cell? ⟨b, o + k * 3 + 1, none⟩ = some (.int .i64 td) := (b5.cell (p := ⟨b, o + k * 3 + 1, none⟩) (by first | omega | (simp; done) | (simp; omega))).trans (by go_simp)); (have s2 : w5.cell? ⟨b, o + k * 3 + 2, none⟩ = some (.slice ta tm tc) := (b5.cell (p := ⟨b, o + k * 3 + 2, none⟩) (by first | omega | (simp; done) | (simp; omega))).trans (by go_simp)); (have l5 := World.block_lt_of_cell? _ _ s0); (dsimp only at l5); (have B5 := Lib.hid (show Below wr.heap.size wr w5 from below_tr (show Below wr.heap.size wr _ from by (repeat (first | with_reducible exact Below.refl _ _ | with_reducible refine Bs ?_ | with_reducible refine Ba ?_ | with_reducible refine Bd ?_ | with_reducible refine Bn ?_ | with_reducible refine Bt B4.out ?_))) (b5.mono (by have := B4.out.size; first | omega | (simp; omega))))); (have HN5 := Lib.hid hn5); (clear b5 hn5); (try go_wp2_with fail)); refine hK.out _ _ ?_ ?_; (focus (first | with_reducible exact True.intro | ((try dsimp only); and_intros <;> first | (go_simp; done) | (go_keep; done)))); (clear hHeld hK K); (intro hHeld); (try simp only [Act.put, List.setIfInBounds_toArray, List.set_cons_zero, List.set_cons_succ]); (refine lexTk 12 (v := ?_) rfl hHeld ?_ (by kernel_rfl) (fun _ _ _ h => h) ?_ ?_; rotate_left 2; (focus rfl); (focus (intro w hSw; (try dsimp only at hSw); first | (go_simp; done) | (go_simp; with_reducible rfl)))); (try simp only [Act.put, List.setIfInBounds_toArray, List.set_cons_zero, List.set_cons_succ]); (refine lexTk 13 (v := ?_) rfl hHeld ?_ (by kernel_rfl) (fun _ _ _ h => h) ?_ ?_; rotate_left 2; (focus rfl); (focus (intro w hSw; (try dsimp only at hSw); first | (go_simp; done) | (go_simp; with_reducible rfl)))); (try simp only [Act.put, List.setIfInBounds_toArray, List.set_cons_zero, List.set_cons_succ]); (refine lexTk 14 (v := ?_) rfl hHeld ?_ (by kernel_rfl) (fun _ _ _ h => h) ?_ ?_; rotate_left 2; (focus rfl); (focus (intro w hSw; (try dsimp only at hSw); first | (go_simp; done) | (go_simp; with_reducible rfl)))); (try simp only [Act.put, List.setIfInBounds_toArray, List.set_cons_zero, List.set_cons_succ]); (refine lexTk 15 (v := ?_) rfl hHeld ?_ (by kernel_rfl) (fun _ _ _ h => h) ?_ ?_; rotate_left 2; (focus rfl); (focus (intro w hSw; (try dsimp only at hSw); first | (go_simp; done) | (go_simp; with_reducible rfl)))); (try simp only [Act.put, List.setIfInBounds_toArray, List.set_cons_zero, List.set_cons_succ]); (refine lexTk 16 (v := ?_) rfl hHeld ?_ (by kernel_rfl) (fun _ _ _ h => h) ?_ ?_; rotate_left 2; (focus rfl); (focus (intro w hSw; (try dsimp only at hSw); first | (go_simp; done) | (go_simp; with_reducible rfl)))); (try simp only [Act.put, List.setIfInBounds_toArray, List.set_cons_zero, List.set_cons_succ]); refine wpAnyH_done (by kernel_rfl) ?_ _
              have B5W := Lib.hid (show Below w.heap.size w w5 from BR.out.trans (B5.out.mono hzr0))
              have hz5 := B5.out.size
              obtain ⟨n5, c5, rfl⟩ := HN5.out.len
              clear HRP
              go_upto_region 14 with fail
              refine wp_region_held_drew (S := fun w' => w'.cell? ⟨b, o + k * 3, none⟩ = some (.int .i64 z) ∧ w'.cell? ⟨b, o + k * 3 + 1, none⟩ = some (.int .i64 td) ∧ w'.cell? ⟨b, o + k * 3 + 2, none⟩ = some (.slice ta tm tc)) (by kernel_rfl) ?_ (fun hHeld => ?_); (focus (first | with_reducible exact True.intro | ((try dsimp only); and_intros <;> first | (go_simp; done) | (go_keep; done)))); (refine lexTk 0 (v := ?_) rfl hHeld ?_ (by kernel_rfl) (fun _ _ _ h => h) ?_ ?_; rotate_left 2; (focus rfl); (focus (intro w hSw; (try dsimp only at hSw); first | (go_simp; done) | (go_simp; with_reducible rfl)))); (try simp only [Act.put, List.setIfInBounds_toArray, List.set_cons_zero, List.set_cons_succ]); (refine lexTk 1 (v := ?_) rfl hHeld ?_ (by kernel_rfl) (fun _ _ _ h => h) ?_ ?_; rotate_left 2; (focus rfl); (focus (intro w hSw; (try dsimp only at hSw); first | (go_simp; done) | (go_simp; with_reducible rfl)))); (try simp only [Act.put, List.setIfInBounds_toArray, List.set_cons_zero, List.set_cons_succ]); (refine lexTk 2 (v := ?_) rfl hHeld ?_ (by kernel_rfl) (fun _ _ _ h => h) ?_ ?_; rotate_left 2; (focus rfl); (focus (intro w hSw; (try dsimp only at hSw); first | (go_simp; done) | (go_simp; with_reducible rfl)))); (try simp only [Act.put, List.setIfInBounds_toArray, List.set_cons_zero, List.set_cons_succ]); (refine lexTk 3 (v := ?_) rfl hHeld ?_ (by kernel_rfl) (fun _ _ _ h => h) ?_ ?_; rotate_left 2; (focus rfl); (focus (intro w hSw; (try dsimp only at hSw); first | (go_simp; done) | (go_simp; with_reducible rfl)))); (try simp only [Act.put, List.setIfInBounds_toArray, List.set_cons_zero, List.set_cons_succ]); (refine lexTk 4 (v := ?_) rfl hHeld ?_ (by kernel_rfl) (fun _ _ _ h => h) ?_ ?_; rotate_left 2; (focus rfl); (focus (intro w hSw; (try dsimp only at hSw); first | (go_simp; done) | (go_simp; with_reducible rfl)))); (try simp only [Act.put, List.setIfInBounds_toArray, List.set_cons_zero, List.set_cons_succ]); (refine lexTk 5 (v := ?_) rfl hHeld ?_ (by kernel_rfl) (fun _ _ _ h => h) ?_ ?_; rotate_left 2; (focus rfl); (focus (intro w hSw; (try dsimp only at hSw); first | (go_simp; done) | (go_simp; with_reducible rfl)))); (try simp only [Act.put, List.setIfInBounds_toArray, List.set_cons_zero, List.set_cons_succ]); (refine lexTk 6 (v := ?_) rfl hHeld ?_ (by kernel_rfl) (fun _ _ _ h => h) ?_ ?_; rotate_left 2; (focus rfl); (focus (intro w hSw; (try dsimp only at hSw); first | (go_simp; done) | (go_simp; with_reducible rfl)))); (try simp only [Act.put, List.setIfInBounds_toArray, List.set_cons_zero, List.set_cons_succ]); (refine lexTk 7 (v := ?_) rfl hHeld ?_ (by kernel_rfl) (fun _ _ _ h => h) ?_ ?_; rotate_left 2; (focus rfl); (focus (intro w hSw; (try dsimp only at hSw); first | (go_simp; done) | (go_simp; with_reducible rfl)))); (try simp only [Act.put, List.setIfInBounds_toArray, List.set_cons_zero, List.set_cons_succ]); (refine lexTk 8 (v := ?_) rfl hHeld ?_ (by kernel_rfl) (fun _ _ _ h => h) ?_ ?_; rotate_left 2; (focus rfl); (focus (intro w hSw; (try dsimp only at hSw); first | (go_simp; done) | (go_simp; with_reducible rfl)))); (try simp only [Act.put, List.setIfInBounds_toArray, List.set_cons_zero, List.set_cons_succ]); (refine lexTk 9 (v := ?_) rfl hHeld ?_ (by kernel_rfl) (fun _ _ _ h => h) ?_ ?_; rotate_left 2; (focus rfl); (focus (intro w hSw; (try dsimp only at hSw); first | (go_simp; done) | (go_simp; with_reducible rfl)))); (try simp only [Act.put, List.setIfInBounds_toArray, List.set_cons_zero, List.set_cons_succ]); (refine lexTk 10 (v := ?_) rfl hHeld ?_ (by kernel_rfl) (fun _ _ _ h => h) ?_ ?_; rotate_left 2; (focus rfl); (focus (intro w hSw; (try dsimp only at hSw); first | (go_simp; done) | (go_simp; with_reducible rfl)))); (try simp only [Act.put, List.setIfInBounds_toArray, List.set_cons_zero, List.set_cons_succ]); (refine lexTk 12 (v := ?_) rfl hHeld ?_ (by kernel_rfl) (fun _ _ _ h => h) ?_ ?_; rotate_left 2; (focus rfl); (focus (intro w hSw; (try dsimp only at hSw); first | (go_simp; done) | (go_simp; with_reducible rfl)))); (try simp only [Act.put, List.setIfInBounds_toArray, List.set_cons_zero, List.set_cons_succ]); refine lexHv 11 rfl ?_ (by kernel_rfl); (intro K hK); (go_simp; (go_at_call 75); ((with_reducible refine (HPU.out _ (by (repeat (first | with_reducible exact Below.refl _ _ | with_reducible refine Bs ?_ | with_reducible refine Ba ?_ | with_reducible refine Bd ?_ | with_reducible refine Bn ?_ | with_reducible refine Bt B5.out ?_)))).mono ?_)); (rintro e w6 ⟨rfl, vs6, hp6, ho6, hf6⟩); (have o6b := ho6.below HFO.out (Nat.le_trans hzr0 (by first | omega | (simp; omega)))); (have y0 : w6.cell? ⟨b, o + k * 3, none⟩ = some (.int .i64 z) := (o6b.cell (p := ⟨b, o + k * 3, none⟩) hb).trans (by go_simp)); (have y1 : w6.cell? ⟨b, o + k * 3 + 1, none⟩ = some (.int .i64 td) := (o6b.cell (p := ⟨b, o + k * 3 + 1, none⟩) hb).trans (by go_simp)); (have y2 : w6.cell? ⟨b, o + k * 3 + 2, none⟩ = some (.slice ta tm tc) := (o6b.cell (p := ⟨b, o + k * 3 + 2, none⟩) hb).trans (by go_simp)); (have l6 := World.block_lt_of_cell? _ _ y0); (dsimp only at l6); (have HP6 := Lib.hid hp6); (have HF6 := Lib.hid (show ∀ b, b ∈ P :: rowsB vs6 → w.heap.size ≤ b from fun b hb => (hf6 b hb).elim (HFO.out b) (fun h => Nat.le_trans (Nat.le_trans hzr0 (by first | omega | (simp; omega))) h))); (have HN6 := Lib.hid ((HN5.out.step (OnlyIn.ofBelow (by (repeat (first | with_reducible exact Below.refl _ _ | with_reducible refine Bs ?_ | with_reducible refine Ba ?_ | with_reducible refine Bd ?_ | with_reducible refine Bn ?_)))) (fun x hx => .inl hx)).step ho6 hf6)); (have B6 := Lib.hid (show Below w.heap.size w w6 from below_tr (show Below w.heap.size w _ from by (repeat (first | with_reducible exact Below.refl _ _ | with_reducible refine Bs ?_ | with_reducible refine Ba ?_ | with_reducible refine Bd ?_ | with_reducible refine Bn ?_ | with_reducible refine Bt B5W.out ?_))) o6b)); (have h6z := o6b.size); (have z6 := B6.out.size); (have hbb6 : BB ≤ w6.heap.size := Nat.le_trans HBR.out (Nat.le_trans (by first | omega | (simp; omega)) h6z)); (have HRC := Lib.hid (fun W (hW : Below w6.heap.size w6 W) => rcells_any (.slice n5 L2.length c5) L2 W ((HN6.out.trees B6.out (by have := HP6.out.many; omega)).below hW) HP6.out.ok HP6.out.many)); (clear hp6 ho6 hf6 o6b h6z); (try go_wp2_with fail)); refine hK.out _ _ ?_ ?_; (focus (first | with_reducible exact True.intro | ((try dsimp only); and_intros <;> first | (go_simp; done) | (go_keep; done)))); (clear hHeld hK K); (intro hHeld); (try simp only [Act.put, List.setIfInBounds_toArray, List.set_cons_zero, List.set_cons_succ]); (refine lexTk 13 (v := ?_) rfl hHeld ?_ (by kernel_rfl) (fun _ _ _ h => h) ?_ ?_; rotate_left 2; (focus rfl); (focus (intro w hSw; (try dsimp only at hSw); first | (go_simp; done) | (go_simp; with_reducible rfl)))); (try simp only [Act.put, List.setIfInBounds_toArray, List.set_cons_zero, List.set_cons_succ]); (refine lexTk 14 (v := ?_) rfl hHeld ?_ (by kernel_rfl) (fun _ _ _ h => h) ?_ ?_; rotate_left 2; (focus rfl); (focus (intro w hSw; (try dsimp only at hSw); first | (go_simp; done) | (go_simp; with_reducible rfl)))); (try simp only [Act.put, List.setIfInBounds_toArray, List.set_cons_zero, List.set_cons_succ]); (first | (refine lexTk 15 (v := ?_) rfl hHeld ?_ (by kernel_rfl) (fun _ _ _ h => h) ?_ ?_; rotate_left 2; (focus rfl); (focus (intro w hSw; (try dsimp only at hSw); first | (go_simp; done) | (go_simp; with_reducible rfl)))) | refine lexSk 15 rfl hHeld ?_ (by kernel_rfl) (fun _ _ _ h => h) (by rfl)); (try simp only [Act.put, List.setIfInBounds_toArray, List.set_cons_zero, List.set_cons_succ]); (first | (refine lexTk 17 (v := ?_) rfl hHeld ?_ (by kernel_rfl) (fun _ _ _ h => h) ?_ ?_; rotate_left 2; (focus rfl); (focus (intro w hSw; (try dsimp only at hSw); first | (go_simp; done) | (go_simp; with_reducible rfl)))) | refine lexSk 17 rfl hHeld ?_ (by kernel_rfl) (fun _ _ _ h => h) (by rfl)); (try simp only [Act.put, List.setIfInBounds_toArray, List.set_cons_zero, List.set_cons_succ]); (first | (refine lexTk 18 (v := ?_) rfl hHeld ?_ (by kernel_rfl) (fun _ _ _ h => h) ?_ ?_; rotate_left 2; (focus rfl); (focus (intro w hSw; (try dsimp only at hSw); first | (go_simp; done) | (go_simp; with_reducible rfl)))) | refine lexSk 18 rfl hHeld ?_ (by kernel_rfl) (fun _ _ _ h => h) (by rfl)); (try simp only [Act.put, List.setIfInBounds_toArray, List.set_cons_zero, List.set_cons_succ]); refine lexHv 16 rfl ?_ (by kernel_rfl); (intro K hK); (go_simp; (go_at_call 62); ((with_reducible refine (flen_any (HP6.out.below (by (repeat (first | with_reducible exact Below.refl _ _ | with_reducible refine Bs ?_ | with_reducible refine Ba ?_ | with_reducible refine Bd ?_ | with_reducible refine Bn ?_))))).mono ?_)); (rintro e w7 ⟨rfl, rfl⟩); (try go_wp2_with fail)); refine hK.out _ _ ?_ ?_; (focus (first | with_reducible exact True.intro | ((try dsimp only); and_intros <;> first | (go_simp; done) | (go_keep; done)))); (clear hHeld hK K); (intro hHeld); (try simp only [Act.put, List.setIfInBounds_toArray, List.set_cons_zero, List.set_cons_succ]); (first | (refine lexTk 19 (v := ?_) rfl hHeld ?_ (by kernel_rfl) (fun _ _ _ h => h) ?_ ?_; rotate_left 2; (focus rfl); (focus (intro w hSw; (try dsimp only at hSw); first | (go_simp; done) | (go_simp; with_reducible rfl)))) | refine lexSk 19 rfl hHeld ?_ (by kernel_rfl) (fun _ _ _ h => h) (by rfl)); (try simp only [Act.put, List.setIfInBounds_toArray, List.set_cons_zero, List.set_cons_succ]); (refine lexTk 20 (v := ?_) rfl hHeld ?_ (by kernel_rfl) (fun _ _ _ h => h) ?_ ?_; rotate_left 2; (focus rfl); (focus (intro w hSw; (try dsimp only at hSw); first | (go_simp; done) | (go_simp; with_reducible rfl)))); (try simp only [Act.put, List.setIfInBounds_toArray, List.set_cons_zero, List.set_cons_succ]); (refine lexTk 21 (v := ?_) rfl hHeld ?_ (by kernel_rfl) (fun _ _ _ h => h) ?_ ?_; rotate_left 2; (focus rfl); (focus (intro w hSw; (try dsimp only at hSw); first | (go_simp; done) | (go_simp; with_reducible rfl)))); (try simp only [Act.put, List.setIfInBounds_toArray, List.set_cons_zero, List.set_cons_succ]); (first | (refine lexTk 22 (v := ?_) rfl hHeld ?_ (by kernel_rfl) (fun _ _ _ h => h) ?_ ?_; rotate_left 2; (focus rfl); (focus (intro w hSw; (try dsimp only at hSw); first | (go_simp; done) | (go_simp; with_reducible rfl)))) | refine lexSk 22 rfl hHeld ?_ (by kernel_rfl) (fun _ _ _ h => h) (by rfl)); (try simp only [Act.put, List.setIfInBounds_toArray, List.set_cons_zero, List.set_cons_succ]); (first | (refine lexTk 24 (v := ?_) rfl hHeld ?_ (by kernel_rfl) (fun _ _ _ h => h) ?_ ?_; rotate_left 2; (focus rfl); (focus (intro w hSw; (try dsimp only at hSw); first | (go_simp; done) | (go_simp; with_reducible rfl)))) | refine lexSk 24 rfl hHeld ?_ (by kernel_rfl) (fun _ _ _ h => h) (by rfl)); (try simp only [Act.put, List.setIfInBounds_toArray, List.set_cons_zero, List.set_cons_succ]); refine lexHv 23 rfl ?_ (by kernel_rfl); (intro K hK); (go_simp; (go_at_call 64); ((with_reducible refine (cells_any _ (HP6.out.below (by (repeat (first | with_reducible exact Below.refl _ _ | with_reducible refine Bs ?_ | with_reducible refine Ba ?_ | with_reducible refine Bd ?_ | with_reducible refine Bn ?_))))).mono ?_)); (rintro e w8 ⟨u1, u2, u3, u4, u5, u6, u7, rfl, ca, b8⟩); (have p0 : w8.cell? ⟨b, o + k * 3, none⟩ = some (.int .i64 z) := (b8.cell (p := ⟨b, o + k * 3, none⟩) (by first | omega | (simp; done) | (simp; omega))).trans (by go_simp)); (have p1 : w8.cell? ⟨b, o + k * 3 + 1, none⟩ = some (.int .i64 td) := (b8.cell (p := ⟨b, o + k * 3 + 1, none⟩) (by first | omega | (simp; done) | (simp; omega))).trans (by go_simp)); (have p2 : w8.cell? ⟨b, o + k * 3 + 2, none⟩ = some (.slice ta tm tc) := (b8.cell (p := ⟨b, o + k * 3 + 2, none⟩) (by first | omega | (simp; done) | (simp; omega))).trans (by go_simp)); (have lp := World.block_lt_of_cell? _ _ p0); (dsimp only at lp); (have CA := Lib.hid ca); (clear ca); (have R8 := Lib.hid b8); (have B8 := Lib.hid (show Below w6.heap.size w6 w8 from below_tr (show Below w6.heap.size w6 _ from by (repeat (first | with_reducible exact Below.refl _ _ | with_reducible refine Bs ?_ | with_reducible refine Ba ?_ | with_reducible refine Bd ?_ | with_reducible refine Bn ?_))) (b8.mono (by first | omega | (simp; done) | (simp; omega))))); (have z8 := B8.out.size); (clear b8); (try go_wp2_with fail)); refine hK.out _ _ ?_ ?_; (focus (first | with_reducible exact True.intro | ((try dsimp only); and_intros <;> first | (go_simp; done) | (go_keep; done)))); (clear hHeld hK K); (intro hHeld); (try simp only [Act.put, List.setIfInBounds_toArray, List.set_cons_zero, List.set_cons_succ]); refine lexHv 25 rfl ?_ (by kernel_rfl); (intro K hK); (go_simp; (go_at_call 65); ((with_reducible refine (HRC.out _ (by (repeat (first | with_reducible exact Below.refl _ _ | with_reducible refine Bs ?_ | with_reducible refine Ba ?_ | with_reducible refine Bd ?_ | with_reducible refine Bn ?_ | with_reducible refine Bt B8.out ?_)))).mono ?_)); (rintro e w9 ⟨x1, x2, x3, x4, x5, x6, x7, rfl, cb, b9⟩); (have q0 : w9.cell? ⟨b, o + k * 3, none⟩ = some (.int .i64 z) := (b9.cell (p := ⟨b, o + k * 3, none⟩) (by first | omega | (simp; done) | (simp; omega))).trans (by go_simp)); (have q1 : w9.cell? ⟨b, o + k * 3 + 1, none⟩ = some (.int .i64 td) := (b9.cell (p := ⟨b, o + k * 3 + 1, none⟩) (by first | omega | (simp; done) | (simp; omega))).trans (by go_simp)); (have q2 : w9.cell? ⟨b, o + k * 3 + 2, none⟩ = some (.slice ta tm tc) := (b9.cell (p := ⟨b, o + k * 3 + 2, none⟩) (by first | omega | (simp; done) | (simp; omega))).trans (by go_simp)); (have lq := World.block_lt_of_cell? _ _ q0); (dsimp only at lq); (have CB := Lib.hid cb); (clear cb); (have R9 := Lib.hid b9); (have B9 := Lib.hid (show Below w6.heap.size w6 w9 from below_tr (show Below w6.heap.size w6 _ from by (repeat (first | with_reducible exact Below.refl _ _ | with_reducible refine Bs ?_ | with_reducible refine Ba ?_ | with_reducible refine Bd ?_ | with_reducible refine Bn ?_ | with_reducible refine Bt B8.out ?_))) (b9.mono (by first | omega | (simp; done) | (simp; omega))))); (have z9 := B9.out.size); (clear b9); (try go_wp2_with fail)); refine hK.out _ _ ?_ ?_; (focus (first | with_reducible exact True.intro | ((try dsimp only); and_intros <;> first | (go_simp; done) | (go_keep; done)))); (clear hHeld hK K); (intro hHeld); (try simp only [Act.put, List.setIfInBounds_toArray, List.set_cons_zero, List.set_cons_succ]); refine lexHv 26 rfl ?_ (by kernel_rfl); (intro K hK); (go_simp; (go_at_call 63); ((refine (r15same_yes (dimL L2) u1 u2 u3 u4 u5 u6 u7 x1 x2 x3 x4 x5 x6 x7 (flatL L2) rfl _ (fun j v r h1 h2 => (CA.out j v r h1 h2).below (by (repeat (first | with_reducible exact Below.refl _ _ | with_reducible refine Bs ?_ | with_reducible refine Ba ?_ | with_reducible refine Bd ?_ | with_reducible refine Bn ?_ | with_reducible refine Bt R8.out ?_ | with_reducible refine Bt R9.out ?_)))) (fun j v r h1 h2 => (CB.out j v r h1 h2).below (by (repeat (first | with_reducible exact Below.refl _ _ | with_reducible refine Bs ?_ | with_reducible refine Ba ?_ | with_reducible refine Bd ?_ | with_reducible refine Bn ?_ | with_reducible refine Bt R8.out ?_ | with_reducible refine Bt R9.out ?_))))).mono ?_)); (rintro e w10 ⟨rfl, b10⟩); (have r0 : w10.cell? ⟨b, o + k * 3, none⟩ = some (.int .i64 z) := (b10.cell (p := ⟨b, o + k * 3, none⟩) (by first | omega | (simp; done) | (simp; omega))).trans (by go_simp)); (have r1 : w10.cell? ⟨b, o + k * 3 + 1, none⟩ = some (.int .i64 td) := (b10.cell (p := ⟨b, o + k * 3 + 1, none⟩) (by first | omega | (simp; done) | (simp; omega))).trans (by go_simp)); (have r2 : w10.cell? ⟨b, o + k * 3 + 2, none⟩ = some (.slice ta tm tc) := (b10.cell (p := ⟨b, o + k * 3 + 2, none⟩) (by first | omega | (simp; done) | (simp; omega))).trans (by go_simp)); (have lr := World.block_lt_of_cell? _ _ r0); (dsimp only at lr); (have R10 := Lib.hid b10); (have B10 := Lib.hid (show Below w6.heap.size w6 w10 from below_tr (show Below w6.heap.size w6 _ from by (repeat (first | with_reducible exact Below.refl _ _ | with_reducible refine Bs ?_ | with_reducible refine Ba ?_ | with_reducible refine Bd ?_ | with_reducible refine Bn ?_ | with_reducible refine Bt B8.out ?_ | with_reducible refine Bt B9.out ?_))) (b10.mono (by first | omega | (simp; done) | (simp; omega))))); (have z10 := B10.out.size); (clear b10); (try go_wp2_with fail)); refine hK.out _ _ ?_ ?_; (focus (first | with_reducible exact True.intro | ((try dsimp only); and_intros <;> first | (go_simp; done) | (go_keep; done)))); (clear hHeld hK K); (intro hHeld); (try simp only [Act.put, List.setIfInBounds_toArray, List.set_cons_zero, List.set_cons_succ]); (first | (refine lexTk 27 (v := ?_) rfl hHeld ?_ (by kernel_rfl) (fun _ _ _ h => h) ?_ ?_; rotate_left 2; (focus rfl); (focus (intro w hSw; (try dsimp only at hSw); first | (go_simp; done) | (go_simp; with_reducible rfl)))) | refine lexSk 27 rfl hHeld ?_ (by kernel_rfl) (fun _ _ _ h => h) (by rfl)); (try simp only [Act.put, List.setIfInBounds_toArray, List.set_cons_zero, List.set_cons_succ]); (refine lexTk 28 (v := ?_) rfl hHeld ?_ (by kernel_rfl) (fun _ _ _ h => h) ?_ ?_; rotate_left 2; (focus rfl); (focus (intro w hSw; (try dsimp only at hSw); first | (go_simp; done) | (go_simp; with_reducible rfl)))); (try simp only [Act.put, List.setIfInBounds_toArray, List.set_cons_zero, List.set_cons_succ]); refine wpAnyH_done (by kernel_rfl) ?_ _
              all_goals
                (go_wp2_with fail)
                go_roundw
                case rel => exact ⟨k + 1, L2, vs6, by go_num, by omega, HP6.out.below (by (repeat (first | with_reducible exact Below.refl _ _ | with_reducible refine Bs ?_ | with_reducible refine Ba ?_ | with_reducible refine Bd ?_ | with_reducible refine Bn ?_ | with_reducible refine Bt B10.out ?_))), HF6.out, HN6.out.step (OnlyIn.ofBelow (by (repeat (first | with_reducible exact Below.refl _ _ | with_reducible refine Bs ?_ | with_reducible refine Ba ?_ | with_reducible refine Bd ?_ | with_reducible refine Bn ?_ | with_reducible refine Bt B10.out ?_)))) (fun x hx => .inl hx), below_tr B6.out (by (repeat (first | with_reducible exact Below.refl _ _ | with_reducible refine Bs ?_ | with_reducible refine Ba ?_ | with_reducible refine Bd ?_ | with_reducible refine Bn ?_ | with_reducible refine Bt B10.out ?_))), by first | omega | (simp; omega)⟩
                case measure => simp [intOf] <;> omega
          · have hkm : k = m := by omega
            subst hkm
            have B3 := BR
            have hz3 := hzr0
            go_wp2_with fail
            (with_reducible refine (lives15_any _).mono ?_)
            rintro e w4 ⟨rfl, b4⟩
            have B4 := Lib.hid (show Below w.heap.size w w4 from B3.out.trans (b4.mono hz3))
            clear b4
            go_wp2_with fail
            go_ret
            exact ⟨by first | rfl | trivial, B4.out⟩

      · have j1 : (C != 0) = true := by simp [hC0]
        clear hC0
        go_enter Try.func13, Try.ntmps13
        go_wp2_with fail
        (with_reducible refine (HM.out _ (by (repeat (first | with_reducible exact Below.refl _ _ | with_reducible refine Bs ?_ | with_reducible refine Ba ?_ | with_reducible refine Bd ?_ | with_reducible refine Bn ?_)))).mono ?_)
        rintro e w1 ⟨rfl, b1⟩
        have B1 := Lib.hid b1
        have hz1 := b1.size
        clear b1
        go_wp2_with fail
        (with_reducible refine (HOF.out _ (by (repeat (first | with_reducible exact Below.refl _ _ | with_reducible refine Bs ?_ | with_reducible refine Ba ?_ | with_reducible refine Bd ?_ | with_reducible refine Bn ?_ | with_reducible refine Bt B1.out ?_)))).mono ?_)
        rintro e w2 ⟨rfl, b2⟩
        have B2 := Lib.hid (show Below w.heap.size w w2 from B1.out.trans (b2.mono hz1))
        have hz2 := B2.out.size
        clear b2
        go_wp2_with fail
        (with_reducible refine (lives15_any _).mono ?_)
        rintro e w3 ⟨rfl, b3⟩
        have B3 := Lib.hid (show Below w.heap.size w w3 from B2.out.trans (b3.mono hz2))
        clear b3
        go_wp2_with fail
        go_ret
        exact ⟨by first | rfl | trivial, B3.out⟩

end Go.Proofs.Ytjmjnkilgoelbaa
