/- Plans: their errors and cycles as plain functions. -/
import Derived.Test.YtdemlenodablfaaDoorStrOrd
namespace Go.Proofs.YtdemlenodablfaaDoor
open Go.RowKit
set_option linter.unusedVariables false
set_option linter.unusedSimpArgs false

def hasK (m : Mach) (v : ByteArray) : Bool := m.can.any fun x => sEq v x
def planE (ms : List Mach) (ns : List NeedS) (plan : List Int) (i : Nat) : Int :=
  if plan.getD i 0 < 0 ∨ (ms.length : Int) ≤ plan.getD i 0 then 8
  else if hasK (ms.getD (plan.getD i 0).toNat default) (ns.getD i default).key = false then 4 else 0
/-- How often k is among the first r. -/
def cnt (plan : List Int) (k : Nat) : Nat → Int
  | 0 => 0
  | r + 1 => cnt plan k r + if plan.getD r 0 = (k : Int) then 1 else 0
theorem cnt_le (plan : List Int) (k : Nat) : ∀ r, 0 ≤ cnt plan k r ∧ cnt plan k r ≤ r
  | 0 => ⟨Int.le_refl _, Int.le_refl _⟩
  | r + 1 => by
    have := cnt_le plan k r
    rw [cnt]
    split <;> omega
theorem cnt_mono (plan : List Int) (k : Nat) {r : Nat} : ∀ {t : Nat}, r ≤ t → cnt plan k r ≤ cnt plan k t
  | 0, h => by rw [show r = 0 by omega]; exact Int.le_refl _
  | t + 1, h => by
    by_cases e : r = t + 1
    · rw [e]; exact Int.le_refl _
    · have := cnt_mono plan k (t := t) (r := r) (by omega)
      rw [cnt]
      split <;> omega
def overE (ms : List Mach) (plan : List Int) (k : Nat) : Int := if (ms.getD k default).feeders < cnt plan k plan.length then 12 else 0
def planF (ms : List Mach) (ns : List NeedS) (plan : List Int) : Int :=
  if plan.length ≠ ns.length then 3
  else if firstE (planE ms ns plan) plan.length ≠ 0 then firstE (planE ms ns plan) plan.length
  else firstE (overE ms plan) ms.length
theorem planF_3 {ms : List Mach} {ns : List NeedS} {plan : List Int} (h : plan.length ≠ ns.length) : planF ms ns plan = 3 := by rw [planF, if_pos h]
theorem planF_at {ms : List Mach} {ns : List NeedS} {plan : List Int} {q : Nat} {e : Int} (h : plan.length = ns.length) (hq : q < plan.length) (hn : ∀ j, j < q → planE ms ns plan j = 0) (he : planE ms ns plan q = e) (h0 : e ≠ 0) : planF ms ns plan = e := by
  have := firstE_found hn (by rw [he]; exact h0) hq
  rw [planF, if_neg (by omega), this, he, if_pos h0]
theorem planF_12 {ms : List Mach} {ns : List NeedS} {plan : List Int} (h : plan.length = ns.length) (hn : ∀ j, j < plan.length → planE ms ns plan j = 0) {k : Nat} (hk : k < ms.length) (ho : (ms.getD k default).feeders < cnt plan k plan.length) : planF ms ns plan = 12 := by
  rw [planF, if_neg (by omega), firstE_none hn, if_neg (by decide)]
  cases hz : firstE (overE ms plan) ms.length with
  | ofNat z =>
    by_cases h0 : firstE (overE ms plan) ms.length = 0
    · have := firstE_zero h0 k hk
      rw [overE, if_pos ho] at this; cases this
    · have : ∀ n, firstE (overE ms plan) n = 0 ∨ firstE (overE ms plan) n = 12 := by
        intro n
        induction n with
        | zero => exact .inl rfl
        | succ n ih =>
          rw [firstE]
          split
          · rw [overE]; split
            · exact .inr rfl
            · exact .inl rfl
          · exact ih
      rcases this ms.length with h1 | h1
      · exact absurd h1 h0
      · rw [← hz, h1]
  | negSucc z =>
    have : ∀ n, 0 ≤ firstE (overE ms plan) n := by
      intro n
      induction n with
      | zero => exact Int.le_refl _
      | succ n ih =>
        rw [firstE]
        split
        · rw [overE]; split <;> decide
        · exact ih
    have := this ms.length
    omega
theorem planF_0 {ms : List Mach} {ns : List NeedS} {plan : List Int} (h : plan.length = ns.length) (hn : ∀ j, j < plan.length → planE ms ns plan j = 0) (ho : ∀ k, k < ms.length → cnt plan k plan.length ≤ (ms.getD k default).feeders) : planF ms ns plan = 0 := by
  rw [planF, if_neg (by omega), firstE_none hn, if_neg (by decide)]
  refine firstE_none fun k hk => ?_
  rw [overE, if_neg (by have := ho k hk; omega)]
theorem planE_ok {ms : List Mach} {ns : List NeedS} {plan : List Int} {i : Nat} (h : planE ms ns plan i = 0) : ∃ k : Nat, plan.getD i 0 = (k : Int) ∧ k < ms.length := by
  rw [planE] at h
  split at h
  · cases h
  · exact ⟨(plan.getD i 0).toNat, by omega, by omega⟩
theorem planE_8 {ms : List Mach} {ns : List NeedS} {plan : List Int} {i : Nat} (h : plan.getD i 0 < 0 ∨ (ms.length : Int) ≤ plan.getD i 0) : planE ms ns plan i = 8 := by rw [planE, if_pos h]
theorem planE_4 {ms : List Mach} {ns : List NeedS} {plan : List Int} {i : Nat} (h : ¬ (plan.getD i 0 < 0 ∨ (ms.length : Int) ≤ plan.getD i 0)) (h2 : hasK (ms.getD (plan.getD i 0).toNat default) (ns.getD i default).key = false) : planE ms ns plan i = 4 := by rw [planE, if_neg h, if_pos h2]
theorem planE_0 {ms : List Mach} {ns : List NeedS} {plan : List Int} {i : Nat} (h : ¬ (plan.getD i 0 < 0 ∨ (ms.length : Int) ≤ plan.getD i 0)) (h2 : hasK (ms.getD (plan.getD i 0).toNat default) (ns.getD i default).key = true) : planE ms ns plan i = 0 := by rw [planE, if_neg h, if_neg (by rw [h2]; simp)]
theorem machF_len {ms : List Mach} (h : machF ms = 0) : 0 < ms.length ∧ ms.length ≤ 6 := by
  rw [machF] at h
  split at h
  · cases h
  · split at h
    · cases h
    · omega
theorem machF_each {ms : List Mach} (h : machF ms = 0) {i : Nat} (hi : i < ms.length) : ((0 ≤ (ms.getD i default).each ∧ (ms.getD i default).each ≤ 10000000) ∧ (0 ≤ (ms.getD i default).fixed ∧ (ms.getD i default).fixed ≤ 10000000) ∧ (0 ≤ (ms.getD i default).feeders ∧ (ms.getD i default).feeders ≤ 100)) ∧ canF (ms.getD i default).can = 0 := by
  obtain ⟨l1, l2⟩ := machF_len h
  rw [machF, if_neg (by omega), if_neg (by omega)] at h
  have := firstE_zero h i hi
  rw [machE] at this
  split at this
  · cases this
  · split at this
    · cases this
    · split at this
      · cases this
      · rename_i h1 h2 h3
        refine ⟨?_, this⟩
        have h3' := Bool.eq_false_iff.2 h3
        rw [Bool.or_eq_false_iff, Bool.or_eq_false_iff] at h3'
        simp only [outR, Bool.or_eq_false_iff, decide_eq_false_iff_not] at h3'
        omega
theorem rfI_in {p : Int} {n : Nat} (h : (!(decide (0 ≤ p) && decide (p ≤ (n : Int) - 1))) = false) : p = ((p.toNat : Nat) : Int) ∧ p.toNat < n := by
  simp only [Bool.not_eq_false', Bool.and_eq_true, decide_eq_true_eq] at h
  omega
theorem rfI_out {p : Int} {n : Nat} (h : (!(decide (0 ≤ p) && decide (p ≤ (n : Int) - 1))) = true) : p < 0 ∨ (n : Int) ≤ p := by
  simp only [Bool.not_eq_true', Bool.and_eq_false_iff, decide_eq_false_iff_not] at h
  omega
def lineF (ms : List Mach) (ns : List NeedS) (plan : List Int) : Int := if faultF ms ns ≠ 0 then faultF ms ns else planF ms ns plan
theorem lineF_0 {ms : List Mach} {ns : List NeedS} {plan : List Int} (h : lineF ms ns plan = 0) : machF ms = 0 ∧ needsF ns 1 1000 = 0 ∧ planF ms ns plan = 0 := by
  rw [lineF] at h
  split at h
  · rename_i h1; exact absurd h h1
  · rename_i h1
    have := faultF_0 (ms := ms) (ns := ns) (by omega)
    exact ⟨this.1, this.2, h⟩
/-- The lists are not longer than a machine can hold. -/
structure SmallM (ms : List Mach) : Prop where
  l : ms.length ≤ 1000000000
  k : ∀ i, (ms.getD i default).key.size ≤ 1000000000
  c : ∀ i, (ms.getD i default).can.length ≤ 1000000000
  s : ∀ i j, ((ms.getD i default).can.getD j ByteArray.empty).size ≤ 1000000000
structure SmallN (ns : List NeedS) : Prop where
  l : ns.length ≤ 1000000000
  k : ∀ i, (ns.getD i default).key.size ≤ 1000000000
end Go.Proofs.YtdemlenodablfaaDoor
