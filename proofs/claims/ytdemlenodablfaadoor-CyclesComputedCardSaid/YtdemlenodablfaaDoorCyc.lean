/- The cycles of a plan, the slowest machine and the better plan, as plain functions. -/
import Derived.Test.YtdemlenodablfaaDoorPlan
namespace Go.Proofs.YtdemlenodablfaaDoor
open Go.RowKit
set_option linter.unusedVariables false
set_option linter.unusedSimpArgs false

/-- The cycle of machine k by the first r of the plan. -/
def cyc (ms : List Mach) (ns : List NeedS) (plan : List Int) (k : Nat) : Nat → Int
  | 0 => (ms.getD k default).fixed
  | r + 1 => if plan.getD r 0 = (k : Int) then cyc ms ns plan k r + (ms.getD k default).each * (ns.getD r default).count else cyc ms ns plan k r
def cycL (ms : List Mach) (ns : List NeedS) (plan : List Int) : List Int := tabI ms.length (fun k => cyc ms ns plan k plan.length)
theorem cycL_len (ms : List Mach) (ns : List NeedS) (plan : List Int) : (cycL ms ns plan).length = ms.length := tabI_len _ _
theorem needsF_len {ns : List NeedS} {lo hi : Int} (h : needsF ns lo hi = 0) : ns.length ≤ 1000 := by
  rw [needsF] at h
  split at h
  · cases h
  · omega
theorem needsF_count {ns : List NeedS} {lo hi : Int} (h : needsF ns lo hi = 0) {i : Nat} (hi' : i < ns.length) : lo ≤ (ns.getD i default).count ∧ (ns.getD i default).count ≤ hi := by
  have hl := needsF_len h
  rw [needsF, if_neg (by omega)] at h
  have := firstE_zero h i hi'
  rw [needE] at this
  split at this
  · cases this
  · split at this
    · cases this
    · split at this
      · cases this
      · rename_i h3
        have h3' := Bool.eq_false_iff.2 h3
        simp only [outR, Bool.or_eq_false_iff, decide_eq_false_iff_not] at h3'
        omega
theorem mul_in {a b : Int} (h1 : 0 ≤ a ∧ a ≤ 10000000) (h2 : 1 ≤ b ∧ b ≤ 1000) : 0 ≤ a * b ∧ a * b ≤ 10000000000 := by
  refine ⟨Int.mul_nonneg h1.1 (by omega), ?_⟩
  have h3 : a * b ≤ 10000000 * b := Int.mul_le_mul_of_nonneg_right h1.2 (by omega)
  omega
section
variable {ms : List Mach} {ns : List NeedS} {plan : List Int}
theorem cyc_in (hm : machF ms = 0) (hn : needsF ns 1 1000 = 0) {k : Nat} (hk : k < ms.length) : ∀ {r : Nat}, r ≤ ns.length → 0 ≤ cyc ms ns plan k r ∧ cyc ms ns plan k r ≤ 10000000 + 10000000000 * r
  | 0, _ => by have := (machF_each hm hk).1; rw [cyc]; omega
  | r + 1, hr => by
    have ih := cyc_in hm hn hk (r := r) (by omega)
    have hp := mul_in (machF_each hm hk).1.1 (needsF_count hn (i := r) (by omega))
    rw [cyc]
    split <;> omega
theorem planF_zero (h : planF ms ns plan = 0) : plan.length = ns.length ∧ ∀ j, j < plan.length → planE ms ns plan j = 0 := by
  rw [planF] at h
  split at h
  · cases h
  · split at h
    · rename_i h2; exact absurd h h2
    · rename_i h1 h2
      exact ⟨by omega, firstE_zero (by omega)⟩
end
theorem tabI_snoc (n : Nat) (f : Nat → Int) : tabI n f ++ [f n] = tabI (n + 1) f := by simp [tabI, List.range_succ]
theorem if_step {j q : Nat} {a b : Int} (h : j ≠ q) : (if j < q then a else b) = (if j < q + 1 then a else b) := by
  by_cases hj : j < q
  · rw [if_pos hj, if_pos (by omega)]
  · rw [if_neg hj, if_neg (by omega)]
/-- The slowest machine, and its cycle. -/
def slowI (ms : List Mach) (ns : List NeedS) (plan : List Int) : Int := fidx (fun x => decide (maxL (cycL ms ns plan) = x)) (cycL ms ns plan)
def slowC (ms : List Mach) (ns : List NeedS) (plan : List Int) : Int := maxL (cycL ms ns plan)
/-- The best machine for element i of the first k, and its longest cycle; -1: none is better than c. -/
def betK (ms : List Mach) (ns : List NeedS) (plan : List Int) (c : Int) (i : Nat) : Nat → Int × Int
  | 0 => (-1, c)
  | k + 1 =>
    let p := betK ms ns plan c i k
    if planF ms ns (plan.set i k) = 0 ∧ slowC ms ns (plan.set i k) < p.2 then ((k : Int), slowC ms ns (plan.set i k)) else p
theorem betK_yes {ms : List Mach} {ns : List NeedS} {plan : List Int} {c : Int} {i k : Nat} (h : planF ms ns (plan.set i k) = 0 ∧ slowC ms ns (plan.set i k) < (betK ms ns plan c i k).2) : betK ms ns plan c i (k + 1) = ((k : Int), slowC ms ns (plan.set i k)) := by
  rw [betK]; exact if_pos h
theorem betK_no {ms : List Mach} {ns : List NeedS} {plan : List Int} {c : Int} {i k : Nat} (h : ¬ (planF ms ns (plan.set i k) = 0 ∧ slowC ms ns (plan.set i k) < (betK ms ns plan c i k).2)) : betK ms ns plan c i (k + 1) = betK ms ns plan c i k := by
  rw [betK]; exact if_neg h
theorem betK_neg {ms : List Mach} {ns : List NeedS} {plan : List Int} {c : Int} {i : Nat} : ∀ {k : Nat}, (betK ms ns plan c i k).1 < 0 → (betK ms ns plan c i k) = (-1, c)
  | 0, _ => rfl
  | k + 1, h => by
    by_cases hc : planF ms ns (plan.set i k) = 0 ∧ slowC ms ns (plan.set i k) < (betK ms ns plan c i k).2
    · rw [betK_yes hc] at h
      simp only at h
      omega
    · rw [betK_no hc] at h ⊢
      exact betK_neg h
/-- The first element that can be bettered: it, the machine, true. -/
def betF (ms : List Mach) (ns : List NeedS) (plan : List Int) : Nat → Nat → Int × Int × Bool
  | 0, _ => (0, 0, false)
  | f + 1, i => if 0 ≤ (betK ms ns plan (slowC ms ns plan) i ms.length).1 then ((i : Int), (betK ms ns plan (slowC ms ns plan) i ms.length).1, true) else betF ms ns plan f (i + 1)
theorem betF_at {ms : List Mach} {ns : List NeedS} {plan : List Int} : ∀ {f i q : Nat}, i ≤ q → q < i + f → (∀ j, i ≤ j → j < q → (betK ms ns plan (slowC ms ns plan) j ms.length).1 < 0) → 0 ≤ (betK ms ns plan (slowC ms ns plan) q ms.length).1 →
    betF ms ns plan f i = ((q : Int), (betK ms ns plan (slowC ms ns plan) q ms.length).1, true)
  | 0, i, q, h1, h2, _, _ => by omega
  | f + 1, i, q, h1, h2, h3, h4 => by
    rw [betF]
    by_cases e : i = q
    · subst e; rw [if_pos h4]
    · have := h3 i (Nat.le_refl _) (by omega)
      rw [if_neg (by omega)]
      exact betF_at (by omega) (by omega) (fun j hj hjq => h3 j (by omega) hjq) h4
theorem betF_none {ms : List Mach} {ns : List NeedS} {plan : List Int} : ∀ {f i : Nat}, (∀ j, i ≤ j → j < i + f → (betK ms ns plan (slowC ms ns plan) j ms.length).1 < 0) → betF ms ns plan f i = (0, 0, false)
  | 0, i, _ => rfl
  | f + 1, i, h => by
    have := h i (Nat.le_refl _) (by omega)
    rw [betF, if_neg (by omega)]
    exact betF_none fun j hj hjf => h j (by omega) (by omega)
end Go.Proofs.YtdemlenodablfaaDoor
