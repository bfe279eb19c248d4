/- The walks of line.Leave, line.end and line.Rate's part that moves boards. -/
import Derived.Test.YtdemlenodablfaaDoorFlow
import Derived.Test.YtdemlenodablfaaDoorLineGen
namespace Go.Proofs.YtdemlenodablfaaDoor
open Go.RowKit
set_option linter.unusedVariables false
set_option linter.unusedSimpArgs false

theorem any_false {lo hi : Int} {xs : List Int} (h : xs.any (outB lo hi) = false) : ∀ k, k < xs.length → lo ≤ at' xs k ∧ at' xs k ≤ hi := by
  intro k hk
  rw [List.any_eq_false] at h
  have := h xs[k] (List.getElem_mem _)
  simp only [outB, Bool.or_eq_true, decide_eq_true_eq, not_or] at this
  simp only [at', List.getD, List.getElem?_eq_getElem hk, Option.getD_some]
  omega

theorem flowF_right {c b : List Int} {n : Int} (h : flowF c b n = 0) : RightLine c b ∧ 1 ≤ n ∧ n ≤ 2000 := by
  unfold flowF at h
  by_cases hc : cycF c ≠ 0
  · rw [if_pos hc] at h; exact absurd h hc
  · rw [if_neg hc] at h
    have hc' : cycF c = 0 := by simpa using hc
    unfold cycF at hc'
    by_cases h0 : c.length = 0
    · rw [if_pos h0] at hc'; omega
    · rw [if_neg h0] at hc'
      by_cases h6 : 6 < c.length
      · rw [if_pos h6] at hc'; omega
      · rw [if_neg h6] at hc'
        cases ha : c.any (outB 1 10000000) with
        | true => rw [ha] at hc'; simp at hc'
        | false =>
          by_cases hl : (b.length : Int) ≠ c.length - 1
          · rw [if_pos hl] at h; omega
          · rw [if_neg hl] at h
            cases hb : b.any (outB 0 2000) with
            | true => rw [hb] at h; simp at h
            | false =>
              cases hn : outB 1 2000 n with
              | true => rw [hn] at h; simp at h
              | false =>
                simp only [outB, Bool.or_eq_false_iff, decide_eq_false_iff_not] at hn
                refine ⟨⟨by omega, by omega, any_false ha, fun k => ?_, by omega⟩, by omega, by omega⟩
                by_cases hk : k < b.length
                · exact (any_false hb k hk).1
                · simp [at', List.getD, List.getElem?_eq_none (show b.length ≤ k by omega)]

/-- The rows behind the cells of a list of lists. -/
theorem IsSl.rows {α : Type} [Enc α] {w : World} {A : Nat → Prop} {a : Option Addr} {n cap : Nat} {xs : List (List α)} (h : IsSl w A (.slice a n cap) xs) (hp : 0 < xs.length) :
    ∃ b off, a = some ⟨b, off, none⟩ ∧ A b ∧ ∀ i, (hi : i < xs.length) → ∃ v, w.cell? ⟨b, off + i, none⟩ = some v ∧ IsSl w A v xs[i] := by
  obtain ⟨b, off, ha, hb, hc⟩ := h.cells.2 hp
  refine ⟨b, off, ha, hb, fun i hi => ?_⟩
  have := hc i hi
  simpa [Enc.Is, Enc.sz] using this
theorem IsSl.passes {w : World} {A : Nat → Prop} {a : Option Addr} {n cap : Nat} {xs : List Pass} (h : IsSl w A (.slice a n cap) xs) (hp : 0 < xs.length) :
    ∃ b off, a = some ⟨b, off, none⟩ ∧ A b ∧ ∀ i, (hi : i < xs.length) → w.cell? ⟨b, off + i * 2, none⟩ = some (.int .i64 xs[i].taken) ∧ w.cell? ⟨b, off + i * 2 + 1, none⟩ = some (.int .i64 xs[i].left) := by
  obtain ⟨b, off, ha, hb, hc⟩ := h.cells.2 hp
  refine ⟨b, off, ha, hb, fun i hi => ?_⟩
  have := hc i hi
  simpa [Enc.Is, Enc.sz] using this

def leaves (c bf : List Int) (n : Nat) : List Int := (List.range n).map fun q => (pas c bf q (c.length - 1)).left
def leavesF (c bf : List Int) (n : Int) : List Int := if flowF c bf n = 0 then leaves c bf n.toNat else []

set_option maxHeartbeats 1000000 in
theorem leave_any (v1 v2 : Value) (c bf : List Int) (n : Int) (A1 A2 : Nat → Prop) (w : World) (h1 : IsSl w A1 v1 c) (h2 : IsSl w A2 v2 bf) :
    Calls Tryd.prog 43 #[v1, v2, .int .i64 n] w fun e w' => ∃ v, e = .returned (.tuple #[v, .int .i64 (flowF c bf n)]) ∧ IsSl w' (fun k => w.heap.size ≤ k) v (leavesF c bf n) ∧ Chg NoB w w' := by
  have HF := hid (flowFault_any v1 v2 c bf n A1 A2 w h1 h2)
  by_cases hf : flowF c bf n = 0
  · obtain ⟨hr, hn1, hn2⟩ := flowF_right hf
    obtain ⟨m, rfl⟩ : ∃ m : Nat, n = m := ⟨n.toNat, by omega⟩
    have HL : Hid (leavesF c bf m = leaves c bf m) := by unfold Hid; rw [leavesF, if_pos hf]; simp
    have HFL : Hid (∀ w1, Chg NoB w w1 → _) := hid fun w1 (hc : Chg NoB w w1) => flow_any v1 v2 c bf m A1 A2 w1 (h1.keepN hc) (h2.keepN hc) hr (by omega)
    have hpos := hr.pos
    have hlen := hr.len
    rw [hf] at HF ⊢
    have HR := hid hr; clear hr hf
    go_enter Tryd.func43, Tryd.ntmps43
    go_wp2_with fail
    refine HF.out.mono ?_
    rintro e w1 ⟨rfl, hc1⟩
    go_wp2_with fail
    refine (HFL.out w1 hc1).mono ?_
    rintro e w2 ⟨v, rfl, hv, hc2⟩
    obtain ⟨a, cap, rfl, g1, g2⟩ := hv.shape
    obtain ⟨b, off, rfl, hb, hrows⟩ := hv.rows (by simp; omega)
    obtain ⟨vr, hcell, hrow⟩ := hrows (c.length - 1) (by simp; omega)
    obtain ⟨ar, capr, rfl, g3, g4⟩ := hrow.shape
    simp only [List.getElem_map, List.getElem_range, List.length_map, List.length_range] at hcell hrow g1 g3 ⊢
    have hc12 := hc1.trans hc2
    have hsz2 := hc12.size
    go_wp2_with fail
    go_loopw [10, 12, 31] (fun v _ i wr => ∃ (j : Nat), j ≤ m ∧ i = .int .i64 j ∧ Own wr w2.heap.size 3 v ((List.range j).map fun q => (pas c bf q (c.length - 1)).left) ∧ Chg (NewB w2.heap.size) w2 wr)
      (fun _ _ i _ => m - (intOf i).toNat)
    case atStart => exact ⟨0, by omega, rfl, Own.nil _ _ _, Chg.refl _ _⟩
    case round =>
      obtain ⟨j, hj, rfl, hown, hch⟩ := hrel
      have hszr := hch.size
      by_cases hjm : j < m
      · obtain ⟨br, offr, rfl, _, hps⟩ := hrow.passes (by simp; omega)
        obtain ⟨p0, p1⟩ := hps j (by simp; omega)
        simp only [List.getElem_map, List.getElem_range] at p0 p1
        have p0' := hch.cellNew (Nat.le_refl _) p0
        have p1' := hch.cellNew (Nat.le_refl _) p1
        clear hps p0 p1
        obtain ⟨X, hX⟩ : ∃ X, X = (pas c bf j (c.length - 1)).left := ⟨_, rfl⟩
        obtain ⟨Y, hY⟩ : ∃ Y, Y = (pas c bf j (c.length - 1)).taken := ⟨_, rfl⟩
        rw [← hX] at p1'
        rw [← hY] at p0'
        have HX := hid hX; clear hX hY
        obtain ⟨av, capv, hv', _, _⟩ := hown.shape
        simp only [List.length_map, List.length_range] at hv'
        subst hv'
        have hal := hown.keep (S := NoB) ((Chg.refl NoB wr).alloc (.cells #[.int .i64 Y, .int .i64 X] 86)) (fun _ _ _ x => x)
        go_wp2_with (at_builtin; refine wpl_append_intB (wr.alloc (.cells #[.int .i64 Y, .int .i64 X] 86)) rfl _ _ 22 3 rfl Tryd.underlying22 infoInt w2.heap.size _ _ _ hal (by simp; omega) (by simp; omega) _ (by simp) j (by simp) rfl rfl ?_; intro g cap' w3 hown3 hc3 hg3 hlg)
        have hc23 : Chg (NewB w2.heap.size) w2 w3 := (hch.trans ((Chg.refl _ wr).alloc _)).trans (hc3.mono fun q hq x => (hal.lt q x).1)
        go_roundw
        case rel => exact ⟨j + 1, by omega, by go_num, by rw [List.range_succ, List.map_append]; simpa [HX.out] using hown3, hc23⟩
        case measure => simp [intOf]; omega
      · obtain rfl : j = m := by omega
        go_wp2_with fail
        go_ret2
        exact ⟨_, rfl, by rw [HL.out]; exact hown.isSl.low fun q hq _ => by omega, hc12.trans (hch.mono fun q h1 h2 => by unfold NewB at h2; omega)⟩
  · have hb : (flowF c bf n != 0) = true := by simp [hf]
    have HL : Hid (leavesF c bf n = []) := by unfold Hid; rw [leavesF, if_neg hf]
    clear hf
    go_enter Tryd.func43, Tryd.ntmps43
    go_wp2_with fail
    refine HF.out.mono ?_
    rintro e w1 ⟨rfl, hc1⟩
    go_wp2_with fail
    go_ret2
    exact ⟨_, rfl, by rw [HL.out]; exact IsSl.nil _ _, hc1⟩
end Go.Proofs.YtdemlenodablfaaDoor
