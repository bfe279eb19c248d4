/- Part 1 of a proof: the walks and laws that it needs. -/
import Derived.Shelf.SlIter.Nil
import Derived.Shelf.SortM.Plain
import Derived.Shelf.SortM.SortNone
import Derived.Ground.GgzProg
import Derived.Ground.SlgmProg
import Derived.Test.YtaaokimiadfidaaGreatDoorProg
import Derived.StringKeys
import Derived.Laws.Bits64
import Derived.Test.YtaaokimiadfidaaGreatDoorZQ3
namespace Go.Proofs.YtaaokimiadfidaaGreatDoor
open Go.RowKit
set_option linter.unusedVariables false
set_option linter.unusedSimpArgs false

def hasK (m : Mach) (v : ByteArray) : Bool := m.can.any fun x => sEq v x
def planE (ms : List Mach) (ns : List NeedS) (plan : List Int) (i : Nat) : Int :=
 if plan.getD i 0 < 0 ∨ (ms.length : Int) ≤ plan.getD i 0 then 8
 else if hasK (ms.getD (plan.getD i 0).toNat default) (ns.getD i default).key = false then 4 else 0
def cnt (plan : List Int) (k : Nat) : Nat → Int
 | 0 => 0
 | r + 1 => cnt plan k r + if plan.getD r 0 = (k : Int) then 1 else 0
theorem cnt_le (plan : List Int) (k : Nat) : ∀ r, 0 ≤ cnt plan k r ∧ cnt plan k r ≤ r
 | 0 => ⟨Int.le_refl _, Int.le_refl _⟩
 | r + 1 => by
  have := cnt_le plan k r
  rw [cnt]
  split <;> omega
theorem cnt_mono (plan : List Int) (k : Nat) {r : Nat} : ∀ {t : Nat}, r ≤ t → cnt plan k r ≤ cnt plan k t
 | 0, h => by rw [show r = 0 by omega]; exact Int.le_refl _
 | t + 1, h => by
  by_cases e : r = t + 1
  ·rw [e]; exact Int.le_refl _
  ·have := cnt_mono plan k (t := t) (r := r) (by omega)
   rw [cnt]
   split <;> omega
def overE (ms : List Mach) (plan : List Int) (k : Nat) : Int := if (ms.getD k default).feeders < cnt plan k plan.length then 12 else 0
def planF (ms : List Mach) (ns : List NeedS) (plan : List Int) : Int :=
 if plan.length ≠ ns.length then 3
 else if firstE (planE ms ns plan) plan.length ≠ 0 then firstE (planE ms ns plan) plan.length
 else firstE (overE ms plan) ms.length
theorem planF_3 {ms : List Mach} {ns : List NeedS} {plan : List Int} (h : plan.length ≠ ns.length) : planF ms ns plan = 3 := by rw [planF, if_pos h]
theorem planF_at {ms : List Mach} {ns : List NeedS} {plan : List Int} {q : Nat} {e : Int} (h : plan.length = ns.length) (hq : q < plan.length) (hn : ∀ j, j < q → planE ms ns plan j = 0) (he : planE ms ns plan q = e) (h0 : e ≠ 0) : planF ms ns plan = e := by
 have := firstE_found hn (by rw [he]; exact h0) hq
 rw [planF, if_neg (by omega), this, he, if_pos h0]
theorem planF_12 {ms : List Mach} {ns : List NeedS} {plan : List Int} (h : plan.length = ns.length) (hn : ∀ j, j < plan.length → planE ms ns plan j = 0) {k : Nat} (hk : k < ms.length) (ho : (ms.getD k default).feeders < cnt plan k plan.length) : planF ms ns plan = 12 := by
 rw [planF, if_neg (by omega), firstE_none hn, if_neg (by decide)]
 cases hz : firstE (overE ms plan) ms.length with
 | ofNat z =>
  by_cases h0 : firstE (overE ms plan) ms.length = 0
  ·have := firstE_zero h0 k hk
   rw [overE, if_pos ho] at this; cases this
  ·have : ∀ n, firstE (overE ms plan) n = 0 ∨ firstE (overE ms plan) n = 12 := by
    intro n
    induction n with
    | zero => exact .inl rfl
    | succ n ih =>
     rw [firstE]
     split
     ·rw [overE]; split
      ·exact .inr rfl
      ·exact .inl rfl
     ·exact ih
   rcases this ms.length with h1 | h1
   ·exact absurd h1 h0
   ·rw [← hz, h1]
 | negSucc z =>
  have : ∀ n, 0 ≤ firstE (overE ms plan) n := by
   intro n
   induction n with
   | zero => exact Int.le_refl _
   | succ n ih =>
    rw [firstE]
    split
    ·rw [overE]; split <;> decide
    ·exact ih
  have := this ms.length
  omega
theorem planF_0 {ms : List Mach} {ns : List NeedS} {plan : List Int} (h : plan.length = ns.length) (hn : ∀ j, j < plan.length → planE ms ns plan j = 0) (ho : ∀ k, k < ms.length → cnt plan k plan.length ≤ (ms.getD k default).feeders) : planF ms ns plan = 0 := by
 rw [planF, if_neg (by omega), firstE_none hn, if_neg (by decide)]
 refine firstE_none fun k hk => ?_
 rw [overE, if_neg (by have := ho k hk; omega)]
theorem planE_ok {ms : List Mach} {ns : List NeedS} {plan : List Int} {i : Nat} (h : planE ms ns plan i = 0) : ∃ k : Nat, plan.getD i 0 = (k : Int) ∧ k < ms.length := by
 rw [planE] at h
 split at h
 ·cases h
 ·exact ⟨(plan.getD i 0).toNat, by omega, by omega⟩
theorem planE_8 {ms : List Mach} {ns : List NeedS} {plan : List Int} {i : Nat} (h : plan.getD i 0 < 0 ∨ (ms.length : Int) ≤ plan.getD i 0) : planE ms ns plan i = 8 := by rw [planE, if_pos h]
theorem planE_4 {ms : List Mach} {ns : List NeedS} {plan : List Int} {i : Nat} (h : ¬ (plan.getD i 0 < 0 ∨ (ms.length : Int) ≤ plan.getD i 0)) (h2 : hasK (ms.getD (plan.getD i 0).toNat default) (ns.getD i default).key = false) : planE ms ns plan i = 4 := by rw [planE, if_neg h, if_pos h2]
theorem planE_0 {ms : List Mach} {ns : List NeedS} {plan : List Int} {i : Nat} (h : ¬ (plan.getD i 0 < 0 ∨ (ms.length : Int) ≤ plan.getD i 0)) (h2 : hasK (ms.getD (plan.getD i 0).toNat default) (ns.getD i default).key = true) : planE ms ns plan i = 0 := by rw [planE, if_neg h, if_neg (by rw [h2]; simp)]
theorem machF_len {ms : List Mach} (h : machF ms = 0) : 0 < ms.length ∧ ms.length ≤ 6 := by
 rw [machF] at h
 split at h
 ·cases h
 ·split at h
  ·cases h
  ·omega
theorem machF_each {ms : List Mach} (h : machF ms = 0) {i : Nat} (hi : i < ms.length) : ((0 ≤ (ms.getD i default).each ∧ (ms.getD i default).each ≤ 10000000) ∧ (0 ≤ (ms.getD i default).fixed ∧ (ms.getD i default).fixed ≤ 10000000) ∧ (0 ≤ (ms.getD i default).feeders ∧ (ms.getD i default).feeders ≤ 100)) ∧ canF (ms.getD i default).can = 0 := by
 obtain ⟨l1, l2⟩ := machF_len h
 rw [machF, if_neg (by omega), if_neg (by omega)] at h
 have := firstE_zero h i hi
 rw [machE] at this
 split at this
 ·cases this
 ·split at this
  ·cases this
  ·split at this
   ·cases this
   ·rename_i h1 h2 h3
    refine ⟨?_, this⟩
    have h3' := Bool.eq_false_iff.2 h3
    rw [Bool.or_eq_false_iff, Bool.or_eq_false_iff] at h3'
    simp only [outR, Bool.or_eq_false_iff, decide_eq_false_iff_not] at h3'
    omega
def lineF (ms : List Mach) (ns : List NeedS) (plan : List Int) : Int := if faultF ms ns ≠ 0 then faultF ms ns else planF ms ns plan
theorem lineF_0 {ms : List Mach} {ns : List NeedS} {plan : List Int} (h : lineF ms ns plan = 0) : machF ms = 0 ∧ needsF ns 1 1000 = 0 ∧ planF ms ns plan = 0 := by
 rw [lineF] at h
 split at h
 ·rename_i h1; exact absurd h h1
 ·rename_i h1
  have := faultF_0 (ms := ms) (ns := ns) (by omega)
  exact ⟨this.1, this.2, h⟩
structure SmallM (ms : List Mach) : Prop where
 l : ms.length ≤ 1000000000
 k : ∀ i, (ms.getD i default).key.size ≤ 1000000000
 c : ∀ i, (ms.getD i default).can.length ≤ 1000000000
 s : ∀ i j, ((ms.getD i default).can.getD j ByteArray.empty).size ≤ 1000000000
structure SmallN (ns : List NeedS) : Prop where
 l : ns.length ≤ 1000000000
 k : ∀ i, (ns.getD i default).key.size ≤ 1000000000
end Go.Proofs.YtaaokimiadfidaaGreatDoor
namespace Go.Proofs.YtaaokimiadfidaaGreatDoor
open Go.RowKit
set_option linter.unusedVariables false
set_option linter.unusedSimpArgs false

def cyc (ms : List Mach) (ns : List NeedS) (plan : List Int) (k : Nat) : Nat → Int
 | 0 => (ms.getD k default).fixed
 | r + 1 => if plan.getD r 0 = (k : Int) then cyc ms ns plan k r + (ms.getD k default).each * (ns.getD r default).count else cyc ms ns plan k r
def cycL (ms : List Mach) (ns : List NeedS) (plan : List Int) : List Int := tabI ms.length (fun k => cyc ms ns plan k plan.length)
theorem cycL_len (ms : List Mach) (ns : List NeedS) (plan : List Int) : (cycL ms ns plan).length = ms.length := tabI_len _ _
theorem needsF_len {ns : List NeedS} {lo hi : Int} (h : needsF ns lo hi = 0) : ns.length ≤ 1000 := by
 rw [needsF] at h
 split at h
 ·cases h
 ·omega
theorem needsF_count {ns : List NeedS} {lo hi : Int} (h : needsF ns lo hi = 0) {i : Nat} (hi' : i < ns.length) : lo ≤ (ns.getD i default).count ∧ (ns.getD i default).count ≤ hi := by
 have hl := needsF_len h
 rw [needsF, if_neg (by omega)] at h
 have := firstE_zero h i hi'
 rw [needE] at this
 split at this
 ·cases this
 ·split at this
  ·cases this
  ·split at this
   ·cases this
   ·rename_i h3
    have h3' := Bool.eq_false_iff.2 h3
    simp only [outR, Bool.or_eq_false_iff, decide_eq_false_iff_not] at h3'
    omega
theorem mul_in {a b : Int} (h1 : 0 ≤ a ∧ a ≤ 10000000) (h2 : 1 ≤ b ∧ b ≤ 1000) : 0 ≤ a * b ∧ a * b ≤ 10000000000 := by
 refine ⟨Int.mul_nonneg h1.1 (by omega), ?_⟩
 have h3 : a * b ≤ 10000000 * b := Int.mul_le_mul_of_nonneg_right h1.2 (by omega)
 omega
section
variable {ms : List Mach} {ns : List NeedS} {plan : List Int}
theorem cyc_in (hm : machF ms = 0) (hn : needsF ns 1 1000 = 0) {k : Nat} (hk : k < ms.length) : ∀ {r : Nat}, r ≤ ns.length → 0 ≤ cyc ms ns plan k r ∧ cyc ms ns plan k r ≤ 10000000 + 10000000000 * r
 | 0, _ => by have := (machF_each hm hk).1; rw [cyc]; omega
 | r + 1, hr => by
  have ih := cyc_in hm hn hk (r := r) (by omega)
  have hp := mul_in (machF_each hm hk).1.1 (needsF_count hn (i := r) (by omega))
  rw [cyc]
  split <;> omega
theorem planF_zero (h : planF ms ns plan = 0) : plan.length = ns.length ∧ ∀ j, j < plan.length → planE ms ns plan j = 0 := by
 rw [planF] at h
 split at h
 ·cases h
 ·split at h
  ·rename_i h2; exact absurd h h2
  ·rename_i h1 h2
   exact ⟨by omega, firstE_zero (by omega)⟩
end
theorem if_step {j q : Nat} {a b : Int} (h : j ≠ q) : (if j < q then a else b) = (if j < q + 1 then a else b) := by
 by_cases hj : j < q
 ·rw [if_pos hj, if_pos (by omega)]
 ·rw [if_neg hj, if_neg (by omega)]
def slowI (ms : List Mach) (ns : List NeedS) (plan : List Int) : Int := fidx (fun x => decide (maxL (cycL ms ns plan) = x)) (cycL ms ns plan)
def slowC (ms : List Mach) (ns : List NeedS) (plan : List Int) : Int := maxL (cycL ms ns plan)
def betK (ms : List Mach) (ns : List NeedS) (plan : List Int) (c : Int) (i : Nat) : Nat → Int × Int
 | 0 => (-1, c)
 | k + 1 =>
  let p := betK ms ns plan c i k
  if planF ms ns (plan.set i k) = 0 ∧ slowC ms ns (plan.set i k) < p.2 then ((k : Int), slowC ms ns (plan.set i k)) else p
theorem betK_yes {ms : List Mach} {ns : List NeedS} {plan : List Int} {c : Int} {i k : Nat} (h : planF ms ns (plan.set i k) = 0 ∧ slowC ms ns (plan.set i k) < (betK ms ns plan c i k).2) : betK ms ns plan c i (k + 1) = ((k : Int), slowC ms ns (plan.set i k)) := by
 rw [betK]; exact if_pos h
theorem betK_no {ms : List Mach} {ns : List NeedS} {plan : List Int} {c : Int} {i k : Nat} (h : ¬ (planF ms ns (plan.set i k) = 0 ∧ slowC ms ns (plan.set i k) < (betK ms ns plan c i k).2)) : betK ms ns plan c i (k + 1) = betK ms ns plan c i k := by
 rw [betK]; exact if_neg h
theorem betK_neg {ms : List Mach} {ns : List NeedS} {plan : List Int} {c : Int} {i : Nat} : ∀ {k : Nat}, (betK ms ns plan c i k).1 < 0 → (betK ms ns plan c i k) = (-1, c)
 | 0, _ => rfl
 | k + 1, h => by
  by_cases hc : planF ms ns (plan.set i k) = 0 ∧ slowC ms ns (plan.set i k) < (betK ms ns plan c i k).2
  ·rw [betK_yes hc] at h
   simp only at h
   omega
  ·rw [betK_no hc] at h ⊢
   exact betK_neg h
def betF (ms : List Mach) (ns : List NeedS) (plan : List Int) : Nat → Nat → Int × Int × Bool
 | 0, _ => (0, 0, false)
 | f + 1, i => if 0 ≤ (betK ms ns plan (slowC ms ns plan) i ms.length).1 then ((i : Int), (betK ms ns plan (slowC ms ns plan) i ms.length).1, true) else betF ms ns plan f (i + 1)
theorem betF_at {ms : List Mach} {ns : List NeedS} {plan : List Int} : ∀ {f i q : Nat}, i ≤ q → q < i + f → (∀ j, i ≤ j → j < q → (betK ms ns plan (slowC ms ns plan) j ms.length).1 < 0) → 0 ≤ (betK ms ns plan (slowC ms ns plan) q ms.length).1 →
  betF ms ns plan f i = ((q : Int), (betK ms ns plan (slowC ms ns plan) q ms.length).1, true)
 | 0, i, q, h1, h2, _, _ => by omega
 | f + 1, i, q, h1, h2, h3, h4 => by
  rw [betF]
  by_cases e : i = q
  ·subst e; rw [if_pos h4]
  ·have := h3 i (Nat.le_refl _) (by omega)
   rw [if_neg (by omega)]
   exact betF_at (by omega) (by omega) (fun j hj hjq => h3 j (by omega) hjq) h4
theorem betF_none {ms : List Mach} {ns : List NeedS} {plan : List Int} : ∀ {f i : Nat}, (∀ j, i ≤ j → j < i + f → (betK ms ns plan (slowC ms ns plan) j ms.length).1 < 0) → betF ms ns plan f i = (0, 0, false)
 | 0, i, _ => rfl
 | f + 1, i, h => by
  have := h i (Nat.le_refl _) (by omega)
  rw [betF, if_neg (by omega)]
  exact betF_none fun j hj hjf => h j (by omega) (by omega)
end Go.Proofs.YtaaokimiadfidaaGreatDoor
namespace Go.Proofs.YtaaokimiadfidaaGreatDoor
set_option linter.unusedVariables false
set_option linter.unusedSimpArgs false
def ndiff (a b : Nat) : Nat := a ^^^ (a &&& b)
theorem ndiff_bit (a b i : Nat) : (ndiff a b).testBit i = (a.testBit i && !b.testBit i) := by
 unfold ndiff
 rw [Nat.testBit_xor, Nat.testBit_and]
 cases a.testBit i <;> cases b.testBit i <;> rfl
def SubN (a r : Nat) : Prop := a &&& r = a
instance (a r : Nat) : Decidable (SubN a r) := inferInstanceAs (Decidable (_ = _))
theorem SubN.iff {a r : Nat} : SubN a r ↔ ∀ i, a.testBit i = true → r.testBit i = true := by
 constructor
 ·intro h i hi
  have := congrArg (fun x => x.testBit i) h
  simp only [Nat.testBit_and, hi, Bool.true_and] at this
  exact this
 ·intro h
  refine Nat.eq_of_testBit_eq fun i => ?_
  rw [Nat.testBit_and]
  cases hi : a.testBit i with
  | false => rfl
  | true => rw [h i hi]; rfl
theorem SubN.refl (a : Nat) : SubN a a := Nat.and_self a
theorem SubN.zero (r : Nat) : SubN 0 r := Nat.zero_and r
theorem SubN.le {a r : Nat} (h : SubN a r) : a ≤ r := by rw [← h]; exact Nat.and_le_right
theorem SubN.trans {a b c : Nat} (h1 : SubN a b) (h2 : SubN b c) : SubN a c := SubN.iff.2 fun i hi => SubN.iff.1 h2 i (SubN.iff.1 h1 i hi)
theorem SubN.and_ (a r : Nat) : SubN (a &&& r) r := by
 unfold SubN; rw [Nat.and_assoc, Nat.and_self]
theorem SubN.diff (a b : Nat) : SubN (ndiff a b) a := SubN.iff.2 fun i hi => by
 rw [ndiff_bit, Bool.and_eq_true] at hi; exact hi.1
theorem and_half (a b : Nat) : (a &&& b) / 2 = a / 2 &&& b / 2 := by
 refine Nat.eq_of_testBit_eq fun i => ?_
 rw [Nat.testBit_div_two, Nat.testBit_and, Nat.testBit_and, Nat.testBit_div_two, Nat.testBit_div_two]
theorem and_low (a b : Nat) : (a &&& b) % 2 = if a % 2 = 1 ∧ b % 2 = 1 then 1 else 0 := by
 have h := Nat.testBit_and a b 0
 simp only [Nat.testBit_zero] at h
 by_cases ha : a % 2 = 1
 ·by_cases hb : b % 2 = 1
  ·rw [if_pos ⟨ha, hb⟩]
   rw [ha, hb] at h
   simpa using h
  ·rw [if_neg (fun h => hb h.2)]
   have hb0 : b % 2 = 0 := by omega
   have h' : ¬ ((a &&& b) % 2 = 1) := fun e => by rw [e, ha, hb0] at h; exact absurd h (by decide)
   have := Nat.mod_two_eq_zero_or_one (a &&& b)
   omega
 ·rw [if_neg (fun h => ha h.1)]
  have ha0 : a % 2 = 0 := by omega
  have h' : ¬ ((a &&& b) % 2 = 1) := fun e => by rw [e, ha0] at h; exact absurd h (by simp)
  have := Nat.mod_two_eq_zero_or_one (a &&& b)
  omega
theorem SubN.half {a r : Nat} (h : SubN a r) : SubN (a / 2) (r / 2) := by
 unfold SubN at h ⊢; rw [← and_half, h]
theorem SubN.low {a r : Nat} (h : SubN a r) : a % 2 ≤ r % 2 := by
 unfold SubN at h
 have h2 := and_low a r
 rw [h] at h2
 split at h2 <;> omega
theorem sub_next : ∀ (sub s r : Nat), SubN s r → SubN sub r → s < sub → s ≤ (sub - 1) &&& r
 | sub, s, r, h1, h2, h => by
  have e1 := and_half (sub - 1) r
  have e2 := and_low (sub - 1) r
  have hl := h1.low
  have hm := h2.low
  by_cases hb : sub % 2 = 1
  ·have hd : (sub - 1) / 2 = sub / 2 := by omega
   rw [hd, h2.half] at e1
   have h0 : (sub - 1) % 2 = 0 := by omega
   rw [if_neg (by omega)] at e2
   omega
  ·have hs : s / 2 < sub / 2 := by omega
   have hd : (sub - 1) / 2 = sub / 2 - 1 := by omega
   have ih := sub_next (sub / 2) (s / 2) (r / 2) h1.half h2.half hs
   rw [hd] at e1
   rw [← e1] at ih
   by_cases hr : r % 2 = 1
   ·rw [if_pos ⟨by omega, hr⟩] at e2; omega
   ·rw [if_neg (fun h => hr h.2)] at e2; omega
 termination_by sub => sub
 decreasing_by omega
theorem sub_dec {sub r : Nat} (h : sub ≠ 0) : (sub - 1) &&& r < sub := Nat.lt_of_le_of_lt Nat.and_le_left (by omega)
theorem full_bit (n i : Nat) : (2 ^ n - 1).testBit i = decide (i < n) := Nat.testBit_two_pow_sub_one ..
end Go.Proofs.YtaaokimiadfidaaGreatDoor
namespace Go.Proofs.YtaaokimiadfidaaGreatDoor
open Go.RowKit
set_option linter.unusedVariables false
set_option linter.unusedSimpArgs false
abbrev neverC : Int := 1152921504606846976
def numB (b : Nat → Bool) : Nat → Nat
 | 0 => 0
 | r + 1 => numB b r + if b r = true then 1 else 0
def timB (m : Mach) (ns : List NeedS) (b : Nat → Bool) : Nat → Int
 | 0 => m.fixed
 | r + 1 => if b r = true then timB m ns b r + m.each * (ns.getD r default).count else timB m ns b r
def okA (m : Mach) (ns : List NeedS) (b : Nat → Bool) (i : Nat) : Bool := !b i || (hasK m (ns.getD i default).key && decide ((numB b (i + 1) : Int) ≤ m.feeders))
def okB (m : Mach) (ns : List NeedS) (b : Nat → Bool) : Bool := (List.range ns.length).all (okA m ns b)
def cycB (m : Mach) (ns : List NeedS) (b : Nat → Bool) : Int := if okB m ns b = true then timB m ns b ns.length else neverC
theorem numB_congr {b b' : Nat → Bool} : ∀ {r : Nat}, (∀ i, i < r → b i = b' i) → numB b r = numB b' r
 | 0, _ => rfl
 | r + 1, h => by rw [numB, numB, numB_congr fun i hi => h i (by omega), h r (by omega)]
theorem timB_congr {m : Mach} {ns : List NeedS} {b b' : Nat → Bool} : ∀ {r : Nat}, (∀ i, i < r → b i = b' i) → timB m ns b r = timB m ns b' r
 | 0, _ => rfl
 | r + 1, h => by rw [timB, timB, timB_congr fun i hi => h i (by omega), h r (by omega)]
theorem okA_congr {m : Mach} {ns : List NeedS} {b b' : Nat → Bool} {i : Nat} (h : ∀ j, j ≤ i → b j = b' j) : okA m ns b i = okA m ns b' i := by
 unfold okA
 rw [h i (Nat.le_refl _), numB_congr fun j hj => h j (by omega)]
theorem okB_iff {m : Mach} {ns : List NeedS} {b : Nat → Bool} : okB m ns b = true ↔ ∀ i, i < ns.length → okA m ns b i = true := by
 unfold okB
 rw [List.all_eq_true]
 exact ⟨fun h i hi => h i (List.mem_range.2 hi), fun h i hi => h i (List.mem_range.1 hi)⟩
theorem cycB_congr {m : Mach} {ns : List NeedS} {b b' : Nat → Bool} (h : ∀ i, i < ns.length → b i = b' i) : cycB m ns b = cycB m ns b' := by
 have e : okB m ns b = okB m ns b' := by
  rw [Bool.eq_iff_iff, okB_iff, okB_iff]
  constructor
  ·intro h2 i hi; rw [← okA_congr fun j hj => h j (by omega)]; exact h2 i hi
  ·intro h2 i hi; rw [okA_congr fun j hj => h j (by omega)]; exact h2 i hi
 unfold cycB; rw [e, timB_congr h]
structure MnOk (ms : List Mach) (ns : List NeedS) : Prop where
 fix : ∀ k, 0 ≤ (ms.getD k default).fixed ∧ (ms.getD k default).fixed ≤ 10000000
 each : ∀ k, 0 ≤ (ms.getD k default).each ∧ (ms.getD k default).each ≤ 10000000
 cnt : ∀ i, 0 ≤ (ns.getD i default).count ∧ (ns.getD i default).count ≤ 1000
 len : ns.length ≤ 1000
theorem mul_in2 {a b : Int} (h1 : 0 ≤ a ∧ a ≤ 10000000) (h2 : 0 ≤ b ∧ b ≤ 1000) : 0 ≤ a * b ∧ a * b ≤ 10000000000 := by
 refine ⟨Int.mul_nonneg h1.1 h2.1, ?_⟩
 have h3 : a * b ≤ 10000000 * b := Int.mul_le_mul_of_nonneg_right h1.2 h2.1
 omega
section
variable {ms : List Mach} {ns : List NeedS}
theorem timB_in (h : MnOk ms ns) (k : Nat) (b : Nat → Bool) : ∀ r, 0 ≤ timB (ms.getD k default) ns b r ∧ timB (ms.getD k default) ns b r ≤ 10000000 + 10000000000 * r
 | 0 => by have := h.fix k; rw [timB]; omega
 | r + 1 => by
  have ih := timB_in h k b r
  have := mul_in2 (h.each k) (h.cnt r)
  rw [timB]; split <;> omega
theorem cycB_in (h : MnOk ms ns) (k : Nat) (b : Nat → Bool) : 0 ≤ cycB (ms.getD k default) ns b ∧ cycB (ms.getD k default) ns b ≤ neverC := by
 have h1 := timB_in h k b ns.length
 have := h.len
 unfold cycB; split <;> simp only [neverC] <;> omega
theorem timB_lt (h : MnOk ms ns) (k : Nat) (b : Nat → Bool) {r : Nat} (hr : r ≤ ns.length) : timB (ms.getD k default) ns b r < neverC := by
 have h1 := timB_in h k b r
 have := h.len
 simp only [neverC]; omega
end
def mnK (F : Nat → Int) : Nat → Int
 | 0 => neverC
 | k + 1 => min (mnK F k) (F k)
theorem mnK_never (F : Nat → Int) : ∀ K, mnK F K ≤ neverC
 | 0 => Int.le_refl _
 | K + 1 => by have := mnK_never F K; rw [mnK]; omega
theorem mnK_le {F : Nat → Int} : ∀ {K k : Nat}, k < K → mnK F K ≤ F k
 | K + 1, k, h => by
  rw [mnK]
  by_cases e : k = K
  ·subst e; omega
  ·have := mnK_le (F := F) (show k < K by omega); omega
theorem mnK_at {F : Nat → Int} : ∀ {K : Nat}, mnK F K < neverC → ∃ k, k < K ∧ F k = mnK F K
 | 0, h => absurd h (Int.lt_irrefl _)
 | K + 1, h => by
  rw [mnK] at h ⊢
  by_cases e : F K ≤ mnK F K
  ·exact ⟨K, by omega, by omega⟩
  ·obtain ⟨k, h1, h2⟩ := mnK_at (F := F) (K := K) (by omega)
   exact ⟨k, by omega, by omega⟩
theorem mnK_iff {F : Nat → Int} {K : Nat} {v : Int} (hv : v < neverC) : mnK F K ≤ v ↔ ∃ k, k < K ∧ F k ≤ v := by
 constructor
 ·intro h
  obtain ⟨k, h1, h2⟩ := mnK_at (F := F) (K := K) (by omega)
  exact ⟨k, h1, by omega⟩
 ·rintro ⟨k, h1, h2⟩
  have := mnK_le (F := F) h1; omega
theorem mnK_nn {F : Nat → Int} (h : ∀ k, 0 ≤ F k) : ∀ K, 0 ≤ mnK F K
 | 0 => show (0 : Int) ≤ neverC by decide
 | K + 1 => by have := mnK_nn h K; have := h K; rw [mnK]; omega
def fsK (F : Nat → Int) (v : Int) : Nat → Nat
 | 0 => 0
 | K + 1 => if fsK F v K < K then fsK F v K else if F K = v then K else K + 1
theorem fsK_spec (F : Nat → Int) (v : Int) : ∀ K, fsK F v K ≤ K ∧ (∀ j, j < fsK F v K → F j ≠ v) ∧ (fsK F v K < K → F (fsK F v K) = v)
 | 0 => ⟨Nat.le_refl _, fun j hj => absurd hj (Nat.not_lt_zero j), fun h => absurd h (Nat.not_lt_zero _)⟩
 | K + 1 => by
  obtain ⟨h1, h2, h3⟩ := fsK_spec F v K
  rw [fsK]
  split
  ·rename_i h; exact ⟨by omega, h2, fun _ => h3 h⟩
  ·have e : fsK F v K = K := by omega
   rw [e] at h2
   split
   ·rename_i h4; exact ⟨by omega, h2, fun _ => h4⟩
   ·rename_i h4
    refine ⟨Nat.le_refl _, fun j hj => ?_, fun h => absurd h (Nat.lt_irrefl _)⟩
    by_cases e2 : j = K
    ·rw [e2]; exact h4
    ·exact h2 j (by omega)
theorem fsK_eq {F : Nat → Int} {v : Int} {K k : Nat} (hk : k < K) (h : F k = v) (hn : ∀ j, j < k → F j ≠ v) : fsK F v K = k := by
 obtain ⟨h1, h2, h3⟩ := fsK_spec F v K
 have a1 : ¬ k < fsK F v K := fun h' => h2 k h' h
 have a2 : ¬ fsK F v K < k := fun h' => hn _ h' (h3 (by omega))
 omega
def mnS (F : Nat → Int) (s : Nat) : Int := mnK (fun t => if SubN t s then F t else neverC) (s + 1)
theorem mnS_iff {F : Nat → Int} {s : Nat} {v : Int} (hv : v < neverC) : mnS F s ≤ v ↔ ∃ t, SubN t s ∧ F t ≤ v := by
 unfold mnS
 rw [mnK_iff hv]
 constructor
 ·rintro ⟨k, h1, h2⟩
  split at h2
  ·rename_i h3; exact ⟨k, h3, h2⟩
  ·omega
 ·rintro ⟨t, h1, h2⟩
  exact ⟨t, by have := h1.le; omega, by rw [if_pos h1]; exact h2⟩
theorem mnS_never (F : Nat → Int) (s : Nat) : mnS F s ≤ neverC := mnK_never _ _
theorem mnS_nn {F : Nat → Int} (h : ∀ t, 0 ≤ F t) (s : Nat) : 0 ≤ mnS F s := mnK_nn (fun t => by split; exact h t; decide) _
theorem eq_of_le {a b : Int} (ha : a ≤ neverC) (hb : b ≤ neverC) (ha0 : 0 ≤ a) (hb0 : 0 ≤ b) (h : ∀ v, 0 ≤ v → v < neverC → (a ≤ v ↔ b ≤ v)) : a = b := by
 by_cases h1 : a < b
 ·exact absurd ((h a ha0 (by omega)).1 (Int.le_refl _)) (by omega)
 ·by_cases h2 : b < a
  ·exact absurd ((h b hb0 (by omega)).2 (Int.le_refl _)) (by omega)
  ·omega
section
variable (ms : List Mach) (ns : List NeedS) (fx : Nat → Nat)
def alnS (k t : Nat) : Int := cycB (ms.getD k default) ns fun i => (fx k ||| t).testBit i
def belS : Nat → Nat → Int
 | 0, s => if s = 0 then 0 else neverC
 | k + 1, s => mnS (fun t => max (belS k (ndiff s t)) (alnS ms ns fx k t)) s
end
theorem ex_mask (p : Nat → Bool) (s : Nat) : ∃ t : Nat, ∀ i, t.testBit i = (s.testBit i && p i) := by
 induction s using Nat.strongRecOn generalizing p with
 | _ s ih =>
  by_cases h0 : s = 0
  ·subst h0; exact ⟨0, fun i => by simp⟩
  ·obtain ⟨t, ht⟩ := ih (s / 2) (by omega) fun i => p (i + 1)
   refine ⟨2 * t + if (s.testBit 0 && p 0) = true then 1 else 0, fun i => ?_⟩
   cases i with
   | zero =>
    cases h : (s.testBit 0 && p 0) with
    | true => simp only [if_true, Nat.testBit_zero]; simp
    | false => simp [Nat.testBit_zero]
   | succ i =>
    rw [Nat.testBit_succ, Nat.testBit_succ]
    have : (2 * t + if (s.testBit 0 && p 0) = true then 1 else 0) / 2 = t := by split <;> omega
    rw [this]; exact ht i
section
variable {ms : List Mach} {ns : List NeedS} {fx : Nat → Nat}
theorem belS_nn (h : MnOk ms ns) : ∀ k s, 0 ≤ belS ms ns fx k s
 | 0, s => by rw [belS]; split <;> decide
 | k + 1, s => mnS_nn (fun t => by have := belS_nn h k (ndiff s t); omega) s
theorem belS_never : ∀ k s, belS ms ns fx k s ≤ neverC
 | 0, s => by rw [belS]; split <;> decide
 | k + 1, s => mnS_never _ _
theorem belS_iff {v : Int} (h0 : 0 ≤ v) (hv : v < neverC) : ∀ (k s : Nat), belS ms ns fx k s ≤ v ↔ ∃ g : Nat → Nat, (∀ i, s.testBit i = true → g i < k) ∧ ∀ j, j < k → cycB (ms.getD j default) ns (fun i => (fx j).testBit i || (s.testBit i && decide (g i = j))) ≤ v
  | 0, s => by
    rw [belS]
    constructor
    · intro h
      split at h
      · rename_i e; subst e; exact ⟨fun _ => 0, fun i hi => by simp at hi, fun j hj => absurd hj (Nat.not_lt_zero j)⟩
      · omega
    · rintro ⟨g, h1, _⟩
      rw [if_pos]
      · exact h0
      · refine Nat.eq_of_testBit_eq fun i => ?_
        cases hi : s.testBit i with
        | false => simp
        | true => exact absurd (h1 i hi) (Nat.not_lt_zero _)
  | k + 1, s => by
    rw [belS, mnS_iff hv]
    constructor
    · rintro ⟨t, ht, hm⟩
      obtain ⟨g, g1, g2⟩ := (belS_iff h0 hv k (ndiff s t)).1 (by omega)
      refine ⟨fun i => if t.testBit i = true then k else g i, fun i hi => ?_, fun j hj => ?_⟩
      · show (if t.testBit i = true then k else g i) < k + 1
        split
        · omega
        · rename_i h2
          have := g1 i (by rw [ndiff_bit, hi]; simpa using h2)
          omega
      · by_cases e : j = k
        · subst e
          refine Int.le_trans (Int.le_of_eq (cycB_congr fun i hi => ?_)) (show alnS ms ns fx j t ≤ v by omega)
          rw [Nat.testBit_or]
          congr 1
          show (s.testBit i && decide ((if t.testBit i = true then j else g i) = j)) = t.testBit i
          cases h2 : t.testBit i with
          | true => rw [SubN.iff.1 ht i h2]; simp
          | false =>
            cases h3 : s.testBit i with
            | false => rfl
            | true =>
              have := g1 i (by rw [ndiff_bit, h3, h2]; rfl)
              simp; omega
        · refine Int.le_trans (Int.le_of_eq (cycB_congr fun i hi => ?_)) (g2 j (by omega))
          congr 1
          rw [ndiff_bit]
          show (s.testBit i && decide ((if t.testBit i = true then k else g i) = j)) = _
          cases h2 : t.testBit i with
          | true => simp; omega
          | false => simp
    · rintro ⟨g, g1, g2⟩
      obtain ⟨t, ht⟩ := ex_mask (fun i => decide (g i = k)) s
      have hts : SubN t s := SubN.iff.2 fun i hi => by rw [ht, Bool.and_eq_true] at hi; exact hi.1
      refine ⟨t, hts, ?_⟩
      have h1 : belS ms ns fx k (ndiff s t) ≤ v := (belS_iff h0 hv k (ndiff s t)).2 ⟨g, fun i hi => by
        rw [ndiff_bit, ht, Bool.and_eq_true] at hi
        have := g1 i hi.1
        have h3 := hi.2
        rw [hi.1] at h3
        simp at h3
        omega, fun j hj => by
        refine Int.le_trans (Int.le_of_eq (cycB_congr fun i hi => ?_)) (g2 j (by omega))
        congr 1
        rw [ndiff_bit, ht]
        cases s.testBit i with
        | false => rfl
        | true =>
          by_cases e : g i = j
          · simp [e]; omega
          · simp [e]⟩
      have h2 : alnS ms ns fx k t ≤ v := by
        refine Int.le_trans (Int.le_of_eq (cycB_congr fun i hi => ?_)) (g2 k (by omega))
        rw [Nat.testBit_or, ht]
      omega
end
def plB (pl : List Int) (k i : Nat) : Bool := decide (i < pl.length) && decide (pl.getD i 0 = (k : Int))
theorem plB_snoc (pl : List Int) (c k i : Nat) : plB (pl ++ [(c : Int)]) k i = (plB pl k i || (decide (i = pl.length) && decide (c = k))) := by
 unfold plB
 by_cases h : i < pl.length
 ·rw [List.getD_eq_getElem?_getD, List.getElem?_append_left h, ← List.getD_eq_getElem?_getD]
  simp [h, show i < pl.length + 1 by omega, show i ≠ pl.length by omega]
 ·by_cases h2 : i = pl.length
  ·subst h2; simp
   exact ⟨fun h => by omega, fun h => by omega⟩
  ·simp [h, h2, show ¬ i < pl.length + 1 by omega]
section
variable (ms : List Mach) (ns : List NeedS)
def ExtP (pl : List Int) (v : Int) : Prop := ∃ g : Nat → Nat, (∀ i, pl.length ≤ i → i < ns.length → g i < ms.length) ∧ ∀ j, j < ms.length → cycB (ms.getD j default) ns (fun i => plB pl j i || ((decide (pl.length ≤ i) && decide (i < ns.length)) && decide (g i = j))) ≤ v
def mxK (F : Nat → Int) : Nat → Int
 | 0 => 0
 | k + 1 => max (mxK F k) (F k)
def mxC (pl : List Int) : Int := mxK (fun k => cycB (ms.getD k default) ns (plB pl k)) ms.length
def bstV : Nat → List Int → Int
 | 0, pl => mxC ms ns pl
 | d + 1, pl => mnK (fun k => bstV d (pl ++ [(k : Int)])) ms.length
def grd : Nat → List Int → List Int
 | 0, pl => pl
 | d + 1, pl => grd d (pl ++ [((fsK (fun k => bstV ms ns d (pl ++ [(k : Int)])) (bstV ms ns (d + 1) pl) ms.length : Nat) : Int)])
end
theorem mxK_le {F : Nat → Int} {v : Int} (h0 : 0 ≤ v) : ∀ {K : Nat}, mxK F K ≤ v ↔ ∀ k, k < K → F k ≤ v
 | 0 => ⟨fun _ k hk => absurd hk (Nat.not_lt_zero k), fun _ => h0⟩
 | K + 1 => by
  have ih := mxK_le (F := F) h0 (K := K)
  rw [mxK]
  constructor
  ·intro h k hk
   by_cases e : k = K
   ·subst e; omega
   ·exact ih.1 (by omega) k (by omega)
  ·intro h
   have h1 := ih.2 fun k hk => h k (by omega)
   have h2 := h K (by omega)
   omega
theorem mxK_nn (F : Nat → Int) : ∀ K, 0 ≤ mxK F K
 | 0 => Int.le_refl _
 | K + 1 => by have := mxK_nn F K; rw [mxK]; omega
theorem mxK_congr {F G : Nat → Int} : ∀ {K}, (∀ k, k < K → F k = G k) → mxK F K = mxK G K
 | 0, _ => rfl
 | K + 1, h => by rw [mxK, mxK, mxK_congr fun k hk => h k (by omega), h K (by omega)]
theorem mxK_up {F : Nat → Int} {v : Int} (h0 : 0 ≤ v) {K : Nat} (h : ∀ k, k < K → F k ≤ v) : mxK F K ≤ v := (mxK_le h0).2 h
section
variable {ms : List Mach} {ns : List NeedS}
theorem mxC_in (h : MnOk ms ns) (pl : List Int) : 0 ≤ mxC ms ns pl ∧ mxC ms ns pl ≤ neverC :=
 ⟨mxK_nn _ _, mxK_up (by decide) fun k _ => (cycB_in h k _).2⟩
theorem bstV_in (h : MnOk ms ns) : ∀ d pl, 0 ≤ bstV ms ns d pl ∧ bstV ms ns d pl ≤ neverC
 | 0, pl => mxC_in h pl
 | d + 1, pl => ⟨mnK_nn (fun k => (bstV_in h d _).1) _, mnK_never _ _⟩
theorem ext_snoc {pl : List Int} {v : Int} (hl : pl.length < ns.length) : ExtP ms ns pl v ↔ ∃ k, k < ms.length ∧ ExtP ms ns (pl ++ [(k : Int)]) v := by
 have key : ∀ (g g' : Nat → Nat) (c j : Nat), g pl.length = c → (∀ i, pl.length + 1 ≤ i → g' i = g i) → ∀ i, (plB (pl ++ [(c : Int)]) j i || ((decide (pl.length + 1 ≤ i) && decide (i < ns.length)) && decide (g' i = j))) = (plB pl j i || ((decide (pl.length ≤ i) && decide (i < ns.length)) && decide (g i = j))) := fun g g' c j hc hg i => by
  rw [plB_snoc]
  by_cases e : i = pl.length
  ·subst e
   rw [hc]
   simp [hl]
   intro h; omega
  ·by_cases e2 : pl.length + 1 ≤ i
   ·rw [hg i e2]
    simp [e, e2, show pl.length ≤ i by omega]
   ·simp [e, e2, show ¬ pl.length ≤ i by omega]
 constructor
 ·rintro ⟨g, h1, h2⟩
  refine ⟨g pl.length, h1 _ (Nat.le_refl _) hl, g, fun i hi hn => h1 i (by simp at hi; omega) hn, fun j hj => ?_⟩
  have := h2 j hj
  rw [cycB_congr fun i _ => (key g g (g pl.length) j rfl (fun _ _ => rfl) i).symm] at this
  rw [List.length_append]; exact this
 ·rintro ⟨k, hk, g, h1, h2⟩
  refine ⟨fun i => if i = pl.length then k else g i, fun i hi hn => ?_, fun j hj => ?_⟩
  ·show (if i = pl.length then k else g i) < _
   split
   ·exact hk
   ·exact h1 i (by simp; omega) hn
  ·have := h2 j hj
   rw [List.length_append] at this
   rw [← cycB_congr fun i _ => key (fun i => if i = pl.length then k else g i) g k j (if_pos rfl) (fun i hi => (if_neg (by omega)).symm) i]
   exact this
theorem bstV_iff {v : Int} (h0 : 0 ≤ v) (hv : v < neverC) : ∀ (d : Nat) (pl : List Int), pl.length + d = ns.length → (bstV ms ns d pl ≤ v ↔ ExtP ms ns pl v)
 | 0, pl, hl => by
  rw [bstV, mxC, mxK_le h0]
  have e : ∀ (g : Nat → Nat) (j i : Nat), i < ns.length → (plB pl j i || ((decide (pl.length ≤ i) && decide (i < ns.length)) && decide (g i = j))) = plB pl j i := fun g j i hi => by
   simp [show ¬ pl.length ≤ i by omega]
  constructor
  ·intro h
   exact ⟨fun _ => 0, fun i hi hn => by omega, fun j hj => by rw [cycB_congr (e _ j)]; exact h j hj⟩
  ·rintro ⟨g, _, h2⟩ j hj
   have := h2 j hj
   rwa [cycB_congr (e g j)] at this
 | d + 1, pl, hl => by
  rw [bstV, mnK_iff hv, ext_snoc (by omega)]
  exact exists_congr fun k => and_congr_right fun hk => bstV_iff h0 hv d _ (by simp; omega)
def mskB (b : Nat → Bool) : Nat → Nat
 | 0 => 0
 | r + 1 => mskB b r ||| (if b r = true then 2 ^ r else 0)
theorem mskB_bit (b : Nat → Bool) : ∀ r i, (mskB b r).testBit i = (decide (i < r) && b i)
 | 0, i => by simp [mskB]
 | r + 1, i => by
  rw [mskB, Nat.testBit_or, mskB_bit b r i]
  by_cases h : i = r
  ·subst h
   cases hb : b i <;> simp [Nat.testBit_two_pow]
  ·have h1 : (if b r = true then 2 ^ r else 0).testBit i = false := by
    split
    ·rw [Nat.testBit_two_pow]; simp; omega
    ·simp
   rw [h1, Bool.or_false]
   congr 1
   exact decide_eq_decide.2 (by omega)
def mskP (pl : List Int) (k : Nat) : Nat := mskB (plB pl k) pl.length
theorem mskP_bit (pl : List Int) (k i : Nat) : (mskP pl k).testBit i = plB pl k i := by
 unfold mskP
 rw [mskB_bit]
 unfold plB
 cases decide (i < pl.length) <;> rfl
theorem mskP_snoc (pl : List Int) (c k : Nat) : mskP (pl ++ [(c : Int)]) k = if k = c then mskP pl k ||| 2 ^ pl.length else mskP pl k := by
 refine Nat.eq_of_testBit_eq fun i => ?_
 rw [mskP_bit, plB_snoc]
 split
 ·rename_i e; subst e
  rw [Nat.testBit_or, mskP_bit, Nat.testBit_two_pow]
  simp [eq_comm]
 ·rename_i e
  rw [mskP_bit]
  simp [show ¬ c = k from fun h => e h.symm]
theorem mskP_lt (pl : List Int) (k : Nat) : mskP pl k < 2 ^ pl.length := Nat.lt_pow_two_of_testBit _ fun i hi => by
 rw [mskP_bit]; unfold plB; simp [show ¬ i < pl.length by omega]
theorem mskP_back (pl : List Int) (k : Nat) : ndiff (mskP pl k ||| 2 ^ pl.length) (2 ^ pl.length) = mskP pl k := by
 refine Nat.eq_of_testBit_eq fun i => ?_
 rw [ndiff_bit, Nat.testBit_or, mskP_bit, Nat.testBit_two_pow]
 unfold plB
 by_cases h : i < pl.length
 ·simp [show ¬ pl.length = i by omega]
 ·simp [h]
def rst (n i : Nat) : Nat := ndiff (2 ^ n - 1) (2 ^ i - 1)
theorem rst_bit (n i j : Nat) : (rst n i).testBit j = (decide (i ≤ j) && decide (j < n)) := by
 unfold rst
 rw [ndiff_bit, full_bit, full_bit]
 by_cases h1 : j < n <;> by_cases h2 : j < i <;> simp [h1, h2] <;> omega
theorem rst_zero (n : Nat) : rst n 0 = 2 ^ n - 1 := by unfold rst ndiff; simp
theorem rst_succ (n i : Nat) : ndiff (rst n i) (2 ^ i) = rst n (i + 1) := by
 refine Nat.eq_of_testBit_eq fun j => ?_
 rw [ndiff_bit, rst_bit, rst_bit, Nat.testBit_two_pow]
 by_cases h1 : i = j
 ·subst h1; simp; omega
 ·by_cases h2 : i ≤ j
  ·simp [h1, h2, show i + 1 ≤ j by omega]
  ·simp [h1, h2, show ¬ i + 1 ≤ j by omega]
theorem rst_lt (n i : Nat) : rst n i < 2 ^ n := Nat.lt_pow_two_of_testBit _ fun j hj => by
 rw [rst_bit]; simp; omega
theorem belS_bst (h : MnOk ms ns) {pl : List Int} {d : Nat} (hl : pl.length + d = ns.length) : belS ms ns (mskP pl) ms.length (rst ns.length pl.length) = bstV ms ns d pl := by
 refine eq_of_le (belS_never _ _) (bstV_in h _ _).2 (belS_nn h _ _) (bstV_in h _ _).1 fun v h0 hv => ?_
 rw [belS_iff h0 hv, bstV_iff h0 hv d pl hl]
 unfold ExtP
 refine exists_congr fun g => ?_
 refine and_congr ?_ ?_
 ·constructor
  ·intro h1 i hi hn; exact h1 i (by rw [rst_bit]; simp; omega)
  ·intro h1 i hi; rw [rst_bit] at hi; simp at hi; exact h1 i hi.1 hi.2
 ·refine forall_congr' fun j => forall_congr' fun hj => ?_
  rw [cycB_congr fun i _ => by rw [mskP_bit, rst_bit]]
def okP (ms : List Mach) (ns : List NeedS) (pl : List Int) : Prop := ∀ k, k < ms.length → okB (ms.getD k default) ns (plB pl k) = true
def mxT (ms : List Mach) (ns : List NeedS) (pl : List Int) : Int := mxK (fun k => timB (ms.getD k default) ns (plB pl k) ns.length) ms.length
theorem mxC_ok {pl : List Int} (h : okP ms ns pl) : mxC ms ns pl = mxT ms ns pl := mxK_congr fun k hk => by rw [cycB, if_pos (h k hk)]
end
end Go.Proofs.YtaaokimiadfidaaGreatDoor
namespace Go.Proofs.YtaaokimiadfidaaGreatDoor
set_option linter.unusedVariables false
set_option linter.unusedSimpArgs false
section
variable {α : Type} (lt : α → α → Bool) (d : α)
def OrdL (l : List α) : Prop := l.Pairwise fun a b => lt b a = false
def InvO (l0 : List α) (i : Nat) (l : List α) : Prop := ∃ P R, l = P ++ R ∧ P.length = min i l.length ∧ l.Perm l0 ∧ OrdL lt P
def InvI (l0 : List α) (i j : Nat) (l : List α) : Prop := ∃ P x S R, l = P ++ x :: (S ++ R) ∧ P.length = j ∧ P.length + S.length = i ∧ l.Perm l0 ∧ OrdL lt (P ++ S) ∧ ∀ s ∈ S, lt x s = true
variable {lt d} {l0 l : List α} {i j : Nat}
theorem InvO.len (h : InvO lt l0 i l) : l.length = l0.length := h.choose_spec.choose_spec.2.2.1.length_eq
theorem InvI.len (h : InvI lt l0 i j l) : l.length = l0.length ∧ i < l.length ∧ j ≤ i := by
 obtain ⟨P, x, S, R, h1, h2, h3, h4, _⟩ := h
 refine ⟨h4.length_eq, ?_, by omega⟩
 rw [h1]; simp; omega
theorem InvO.one (l0 : List α) : InvO lt l0 1 l0 := by
 cases l0 with
 | nil => exact ⟨[], [], rfl, by simp, .refl _, .nil⟩
 | cons x r => exact ⟨[x], r, rfl, by simp, .refl _, List.pairwise_singleton _ _⟩
theorem InvO.start (h : InvO lt l0 i l) (hi : i < l.length) : InvI lt l0 i i l := by
 obtain ⟨P, R, h1, h2, h3, h4⟩ := h
 rw [Nat.min_eq_left (by omega)] at h2
 cases R with
 | nil => rw [h1] at hi; simp at hi; omega
 | cons x R => exact ⟨P, x, [], R, h1, h2, by simpa using h2, h3, by simpa using h4, by simp⟩
theorem snocOf {P : List α} (h : 0 < P.length) : ∃ Q y, P = Q ++ [y] := ⟨P.dropLast, P.getLast (by intro e; rw [e] at h; simp at h), (List.dropLast_concat_getLast _).symm⟩
theorem swap_eq {Q T : List α} {x y : α} : ((Q ++ y :: x :: T).set (Q.length + 1) y).set Q.length x = Q ++ x :: y :: T := by
 rw [List.set_append_right _ _ (by omega), show Q.length + 1 - Q.length = 1 by omega, List.set_append_right _ _ (by omega), Nat.sub_self]
 rfl
theorem at0 {Q T : List α} {y : α} : (Q ++ y :: T).getD Q.length d = y := by simp [List.getD_eq_getElem?_getD]
theorem at1 {Q T : List α} {x y : α} : (Q ++ y :: x :: T).getD (Q.length + 1) d = x := by
 simp [List.getD_eq_getElem?_getD, List.getElem?_append_right]
theorem InvI.next (ht : ∀ {a b c : α}, lt a b = true → lt b c = true → lt a c = true) (h : InvI lt l0 i j l) (hj : 0 < j) (hlt : lt (l.getD j d) (l.getD (j - 1) d) = true) :
  InvI lt l0 i (j - 1) ((l.set j (l.getD (j - 1) d)).set (j - 1) (l.getD j d)) := by
 obtain ⟨P, x, S, R, h1, h2, h3, h4, h5, h6⟩ := h
 obtain ⟨Q, y, rfl⟩ := snocOf (P := P) (by omega)
 have hl : l = Q ++ y :: x :: (S ++ R) := by rw [h1]; simp
 have hj' : j = Q.length + 1 := by rw [← h2]; simp
 subst hj'
 rw [hl] at hlt ⊢
 rw [at1, show Q.length + 1 - 1 = Q.length by omega, at0] at hlt
 rw [at1, show Q.length + 1 - 1 = Q.length by omega, at0, swap_eq]
 refine ⟨Q, x, y :: S, R, by simp, rfl, by simp at h3 ⊢; omega, ?_, by simpa using h5, ?_⟩
 ·rw [hl] at h4
  exact ((List.Perm.swap y x (S ++ R)).append_left Q).trans h4
 ·intro s hs
  rcases List.mem_cons.1 hs with rfl | hs
  ·exact hlt
  ·exact h6 s hs
theorem InvI.done (ha : ∀ {a b : α}, lt a b = true → lt b a = false) (hn : ∀ {a b c : α}, lt b a = false → lt c b = false → lt c a = false) (h : InvI lt l0 i j l) (hx : j = 0 ∨ lt (l.getD j d) (l.getD (j - 1) d) = false) : InvO lt l0 (i + 1) l := by
 obtain ⟨P, x, S, R, h1, h2, h3, h4, h5, h6⟩ := h
 refine ⟨P ++ x :: S, R, by rw [h1]; simp, by rw [h1]; simp; omega, h4, ?_⟩
 unfold OrdL at h5 ⊢
 obtain ⟨k1, k2, k3⟩ := List.pairwise_append.1 h5
 refine List.pairwise_append.2 ⟨k1, List.pairwise_cons.2 ⟨fun s hs => ha (h6 s hs), k2⟩, fun a hA b hb => ?_⟩
 rcases List.mem_cons.1 hb with rfl | hb
 ·rcases hx with hx | hx
  ·subst hx; rw [List.eq_nil_of_length_eq_zero h2] at hA; cases hA
  ·obtain ⟨Q, y, rfl⟩ := snocOf (P := P) (List.length_pos_of_mem hA)
   have hl : l = Q ++ y :: b :: (S ++ R) := by rw [h1]; simp
   have hj' : j = Q.length + 1 := by rw [← h2]; simp
   subst hj'
   rw [hl, at1, show Q.length + 1 - 1 = Q.length by omega, at0] at hx
   rcases List.mem_append.1 hA with hA | hA
   ·have := (List.pairwise_append.1 k1).2.2 a hA y (by simp)
    exact hn this hx
   ·simp at hA; subst hA; exact hx
 ·exact k3 a hA b hb
theorem InvO.all (h : InvO lt l0 i l) (hi : l.length ≤ i) : l.Perm l0 ∧ OrdL lt l := by
 obtain ⟨P, R, h1, h2, h3, h4⟩ := h
 rw [Nat.min_eq_right hi] at h2
 have : R = [] := by rw [h1] at h2; simpa using h2
 subst this
 rw [List.append_nil] at h1
 subst h1
 exact ⟨h3, h4⟩
end
end Go.Proofs.YtaaokimiadfidaaGreatDoor
namespace Go.Proofs.YtaaokimiadfidaaGreatDoor
open Go.RowKit
set_option linter.unusedVariables false
set_option linter.unusedSimpArgs false
def swp (l : List Int) (j : Nat) : List Int := (l.set j (l.getD (j - 1) 0)).set (j - 1) (l.getD j 0)
theorem swp_perm {l : List Int} {j : Nat} (h0 : 0 < j) (h : j < l.length) : (swp l j).Perm l := by
 obtain ⟨q, rfl⟩ : ∃ q, j = q + 1 := ⟨j - 1, by omega⟩
 have e : l = l.take q ++ l[q] :: l[q + 1] :: l.drop (q + 2) := by
  conv => lhs; rw [← List.take_append_drop q l]
  rw [List.drop_eq_getElem_cons (by omega : q < l.length), List.drop_eq_getElem_cons (by omega : q + 1 < l.length)]
 have hq : (l.take q).length = q := by simp; omega
 have h1 : l.getD (q + 1 - 1) 0 = l[q] := by simp [show q < l.length by omega]
 have h2 : l.getD (q + 1) 0 = l[q + 1] := by simp [h]
 unfold swp
 rw [h1, h2, show q + 1 - 1 = q by omega]
 have hs := swap_eq (Q := l.take q) (T := l.drop (q + 2)) (x := l[q + 1]) (y := l[q])
 rw [← e, hq] at hs
 rw [hs]
 conv => rhs; rw [e]
 exact (List.Perm.swap _ _ _).append_left _
def downI (c : Int → Int → Int) : Nat → List Int → List Int
 | 0, l => l
 | j + 1, l => if c (l.getD (j + 1) 0) (l.getD j 0) < 0 then downI c j (swp l (j + 1)) else l
theorem downI_perm (c : Int → Int → Int) : ∀ (j : Nat) (l : List Int), j < l.length ∨ l.length = 0 ∨ j = 0 → (downI c j l).Perm l
 | 0, l, _ => .refl _
 | j + 1, l, h => by
  rw [downI]
  split
  ·by_cases hl : j + 1 < l.length
   ·have hp := swp_perm (l := l) (j := j + 1) (by omega) hl
    exact (downI_perm c j _ (.inl (by rw [hp.length_eq]; omega))).trans hp
   ·have h0 : l = [] := List.eq_nil_of_length_eq_zero (by omega)
    subst h0
    have : swp [] (j + 1) = [] := rfl
    rw [this]
    exact downI_perm c j [] (.inr (.inl rfl))
  ·exact .refl _
theorem downI_t {c : Int → Int → Int} {l : List Int} {j : Nat} (h0 : 0 < j) (h : c (l.getD j 0) (l.getD (j - 1) 0) < 0) : downI c j l = downI c (j - 1) (swp l j) := by
 obtain ⟨q, rfl⟩ : ∃ q, j = q + 1 := ⟨j - 1, by omega⟩
 rw [downI, if_pos (by simpa using h)]; rfl
theorem downI_f {c : Int → Int → Int} {l : List Int} {j : Nat} (h : j = 0 ∨ ¬ c (l.getD j 0) (l.getD (j - 1) 0) < 0) : downI c j l = l := by
 cases j with
 | zero => rfl
 | succ q =>
  rcases h with h | h
  ·omega
  ·rw [downI, if_neg (by simpa using h)]
def insT (c : Int → Int → Int) (l : List Int) : Nat → List Int
 | 0 => l
 | i + 1 => downI c (i + 1) (insT c l i)
theorem insT_perm (c : Int → Int → Int) (l : List Int) : ∀ i, i < l.length ∨ i = 0 → (insT c l i).Perm l
 | 0, _ => .refl _
 | i + 1, h => by
  have ih := insT_perm c l i (by omega)
  exact (downI_perm c (i + 1) _ (.inl (by rw [ih.length_eq]; omega))).trans ih
theorem insT_at {c : Int → Int → Int} {l : List Int} {i : Nat} (h : 0 < i) : insT c l i = downI c i (insT c l (i - 1)) := by
 obtain ⟨q, rfl⟩ : ∃ q, i = q + 1 := ⟨i - 1, by omega⟩
 rfl
theorem mem_of {l l0 : List Int} (h : l.Perm l0) {j : Nat} (hj : j < l.length) : l.getD j 0 ∈ l0 := h.subset (by rw [List.getD_eq_getElem?_getD, List.getElem?_eq_getElem hj]; exact List.getElem_mem hj)
set_option maxRecDepth 100000 in
set_option maxHeartbeats 4000000 in
theorem insSortC_int {l0 : List Int} {u : Value} {ty : TypeId} {F : FuncId} {cs : List AV} {c : Int → Int → Int} (hl : l0.length ≤ 1000000) (hcall : ∀ us w, (callFunc F us).run Tryz.prog w = .ok (.enter F us) w) (hF : ∀ x y, x ∈ l0 → y ∈ l0 → Spec Tryz.prog F ([avI x, avI y] ++ cs) (fun z => z = avI (c x y))) :
  SpecH Tryz.prog 337 [.v u, avI 0, avI l0.length, .fn F cs] [.row u l0.length 1 (intsL l0) ty] (fun y hp' => y = .tup [] ∧ hp' = [.row u l0.length 1 (intsL (insT c l0 (l0.length - 1))) ty]) := by
 refine SpecH.of_VC Tryz.func337 rfl Tryz.ntmps337 (Nle rfl) fun w A hB => ?_
 have hnew : True := trivial
 refine VC.sr ?_
 refine VO.mv rfl rfl rfl rfl ?_
 refine VO.val rfl rfl (OpV.add rfl rfl rfl (by unfold fits; omega)) ?_
 refine VO.ma rfl rfl rfl rfl ?_
 refine VO.nil ?_
 refine VC.block ?_
 refine VC.loopK [(0, _), (1, _), (2, _), (3, _)] ⟨rfl, rfl, rfl, rfl, trivial⟩ ({i : Nat // 0 < i ∧ i ≤ max 1 l0.length}) (fun (iZ : {i : Nat // 0 < i ∧ i ≤ max 1 l0.length}) => match iZ with | ⟨i, hi0, hin⟩ => [(8, avI (i : Int))]) (fun (iZ : {i : Nat // 0 < i ∧ i ≤ max 1 l0.length}) => match iZ with | ⟨i, hi0, hin⟩ => [.row u l0.length 1 (intsL (insT c l0 (i - 1))) ty]) (fun (iZ : {i : Nat // 0 < i ∧ i ≤ max 1 l0.length}) => match iZ with | ⟨i, hi0, hin⟩ => 0) (fun (iZ : {i : Nat // 0 < i ∧ i ≤ max 1 l0.length}) => match iZ with | ⟨i, hi0, hin⟩ => l0.length - i) ⟨1, Nat.one_pos, by omega⟩ (Le.mk hB [0] ⟨rfl, rfl, rfl, rfl, rfl, trivial⟩ rfl rfl (Nat.le_refl _)) ?_
 rintro ⟨i, hi0, hin⟩
 show VC _ _ _ _ ⟨[(8, avI (i : Int))] ++ [(0, _), (1, _), (2, _), (3, _)], [.row u l0.length 1 (intsL (insT c l0 (i - 1))) ty], 0⟩
 refine VC.seq ?_
 refine VC.sr ?_
 refine VO.mv rfl rfl rfl rfl ?_
 refine VO.mv rfl rfl rfl rfl ?_
 refine VO.val rfl rfl (OpV.lss rfl rfl rfl) ?_
 refine VO.nil ?_
 refine VC.cond rfl (fun aH1b => ?_) (fun aH1b => ?_)
 ·have aH1 := aH1b
  try simp only [qqT, qqF, qqN, qqM, qqL, qqE] at aH1
  refine VC.skip ?_
  refine VC.seq ?_
  refine VC.block ?_
  refine VC.sr ?_
  refine VO.mv rfl rfl rfl rfl ?_
  refine VO.ma rfl rfl rfl rfl ?_
  refine VO.nil ?_
  refine VC.block ?_
  have hpi := insT_perm c l0 (i - 1) (by omega)
  refine VC.asBox (i := 0) rfl (by omega) (fun g cap hu hcap hmx => ?_)
  subst hu
  refine VC.loopK [(0, _), (1, _), (2, _), (3, _), (8, _)] ⟨rfl, rfl, rfl, rfl, rfl, trivial⟩ ({z : Nat × List Int // z.1 ≤ i ∧ downI c z.1 z.2 = insT c l0 i ∧ z.2.Perm l0}) (fun (iZ : {z : Nat × List Int // z.1 ≤ i ∧ downI c z.1 z.2 = insT c l0 i ∧ z.2.Perm l0}) => match iZ with | ⟨⟨j, l2⟩, hji, hd, hpl⟩ => [(9, avI (j : Int))]) (fun (iZ : {z : Nat × List Int // z.1 ≤ i ∧ downI c z.1 z.2 = insT c l0 i ∧ z.2.Perm l0}) => match iZ with | ⟨⟨j, l2⟩, hji, hd, hpl⟩ => [.box g ⟨intsL l2, ty, cap * 1⟩]) (fun (iZ : {z : Nat × List Int // z.1 ≤ i ∧ downI c z.1 z.2 = insT c l0 i ∧ z.2.Perm l0}) => match iZ with | ⟨⟨j, l2⟩, hji, hd, hpl⟩ => 0) (fun (iZ : {z : Nat × List Int // z.1 ≤ i ∧ downI c z.1 z.2 = insT c l0 i ∧ z.2.Perm l0}) => match iZ with | ⟨⟨j, l2⟩, hji, hd, hpl⟩ => j) ⟨(i, insT c l0 (i - 1)), Nat.le_refl _, (insT_at hi0).symm, hpi⟩ (Le.mk hB [0] ⟨rfl, rfl, rfl, rfl, rfl, rfl, trivial⟩ rfl rfl (Nat.le_refl _)) ?_
  rintro ⟨⟨j, l2⟩, hji, hd, hpl⟩
  show VC _ _ _ _ ⟨[(9, avI (j : Int))] ++ [(0, _), (1, _), (2, _), (3, _), (8, _)], [.box g ⟨intsL l2, ty, cap * 1⟩], 0⟩
  simp only at hji hd hpl
  have hlen2 := hpl.length_eq
  refine VC.seq ?_
  refine VC.seq ?_
  refine VC.draw (fun _ => NoB) hB (by kernel_rfl) ?_
  refine VA.take (i := 0) rfl (by kernel_rfl) (by kernel_rfl) (by kernel_rfl) rfl rfl (OpV.move (.inl rfl) rfl) ?_
  refine VA.take (i := 1) rfl (by kernel_rfl) (by kernel_rfl) (by kernel_rfl) rfl rfl (OpV.move (.inl rfl) rfl) ?_
  refine VA.take (i := 2) rfl (by kernel_rfl) (by kernel_rfl) (by kernel_rfl) rfl rfl (OpV.gtr rfl rfl rfl) ?_
  refine VA.take (i := 3) rfl (by kernel_rfl) (by kernel_rfl) (by kernel_rfl) rfl rfl (OpV.move (.inl rfl) rfl) ?_
  refine VA.split (t := 21) rfl (fun aK2b => ?_) (fun aK2b => ?_)
  ·have aK2 := aK2b
   try simp only [qqT, qqF, qqN, qqM, qqL, qqE] at aK2
   refine VA.takeY (i := 4) rfl (by kernel_rfl) (by kernel_rfl) (by kernel_rfl) rfl rfl rfl rfl aK2b (OpV.move (.inl rfl) rfl) ?_
   refine VA.takeY (i := 5) rfl (by kernel_rfl) (by kernel_rfl) (by kernel_rfl) rfl rfl rfl rfl aK2b (OpV.move (.inl rfl) rfl) ?_
   refine VA.takeY (i := 6) rfl (by kernel_rfl) (by kernel_rfl) (by kernel_rfl) rfl rfl rfl rfl aK2b (OpV.move (.inl rfl) rfl) ?_
   refine VA.takeY (i := 7) rfl (by kernel_rfl) (by kernel_rfl) (by kernel_rfl) rfl rfl rfl rfl aK2b (OpV.indexAddr_o rfl Tryz.underlying22 Tryz.sizeOf3 rfl rfl rfl (by omega)) ?_
   refine VA.takeY (i := 8) rfl (by kernel_rfl) (by kernel_rfl) (by kernel_rfl) rfl rfl rfl rfl aK2b (OpV.load_own (i := 0) rfl hB Tryz.isAgg3 rfl rfl (intsL_get (j := j) (by omega)) Wi.not0) ?_
   refine VA.takeY (i := 9) rfl (by kernel_rfl) (by kernel_rfl) (by kernel_rfl) rfl rfl rfl rfl aK2b (OpV.move (.inl rfl) rfl) ?_
   refine VA.takeY (i := 10) rfl (by kernel_rfl) (by kernel_rfl) (by kernel_rfl) rfl rfl rfl rfl aK2b (OpV.move (.inl rfl) rfl) ?_
   refine VA.takeY (i := 11) rfl (by kernel_rfl) (by kernel_rfl) (by kernel_rfl) rfl rfl rfl rfl aK2b (OpV.sub rfl rfl rfl (by unfold fits; omega)) ?_
   refine VA.takeY (i := 12) rfl (by kernel_rfl) (by kernel_rfl) (by kernel_rfl) rfl rfl rfl rfl aK2b (OpV.indexAddr_o rfl Tryz.underlying22 Tryz.sizeOf3 rfl rfl (show (j : Int) - 1 = ((j - 1 : Nat) : Int) by omega) (by omega)) ?_
   refine VA.takeY (i := 13) rfl (by kernel_rfl) (by kernel_rfl) (by kernel_rfl) rfl rfl rfl rfl aK2b (OpV.load_own (i := 0) rfl hB Tryz.isAgg3 rfl rfl (intsL_get (j := j - 1) (by omega)) Wi.not0) ?_
   refine VA.all (rs := [14]) (by kernel_rfl) (by decide) ?_
   refine ⟨⟨_, rfl, .inr ⟨_, _, _, rfl, rfl, (look_k rfl aK2b)⟩, ?_⟩, trivial⟩
   refine OpE.callF rfl hB rfl hcall rfl rfl (hF _ _ (mem_of hpl (by omega)) (mem_of hpl (by omega))) ?_
   rintro _ rfl
   refine VA.takeY (i := 15) rfl (by kernel_rfl) (by kernel_rfl) (by kernel_rfl) rfl rfl rfl rfl aK2b (OpV.lss rfl rfl rfl) ?_
   refine VA.take (i := 16) rfl (by kernel_rfl) (by kernel_rfl) (by kernel_rfl) rfl rfl (OpV.pickT rfl rfl rfl rfl aK2b) ?_
   refine VA.done (by kernel_rfl) ?_
   refine VC.cond rfl (fun hcb => ?_) (fun hcb => ?_)
   ·have hc := hcb
    try simp only [qqT, qqF, qqN, qqM, qqL, qqE] at hc
    refine VC.skip ?_
    refine VC.seq ?_
    refine VC.block ?_
    refine VC.draw (fun j b => j ∈ [15, 17] ∧ b = g) hB (by kernel_rfl) ?_
    refine VA.take (i := 0) rfl (by kernel_rfl) (by kernel_rfl) (by kernel_rfl) rfl rfl (OpV.move (.inl rfl) rfl) ?_
    refine VA.take (i := 1) rfl (by kernel_rfl) (by kernel_rfl) (by kernel_rfl) rfl rfl (OpV.move (.inl rfl) rfl) ?_
    refine VA.take (i := 2) rfl (by kernel_rfl) (by kernel_rfl) (by kernel_rfl) rfl rfl (OpV.move (.inl rfl) rfl) ?_
    refine VA.take (i := 3) rfl (by kernel_rfl) (by kernel_rfl) (by kernel_rfl) rfl rfl (OpV.move (.inl rfl) rfl) ?_
    refine VA.take (i := 4) rfl (by kernel_rfl) (by kernel_rfl) (by kernel_rfl) rfl rfl (OpV.sub rfl rfl rfl (by unfold fits; omega)) ?_
    refine VA.take (i := 5) rfl (by kernel_rfl) (by kernel_rfl) (by kernel_rfl) rfl rfl (OpV.move (.inl rfl) rfl) ?_
    refine VA.take (i := 6) rfl (by kernel_rfl) (by kernel_rfl) (by kernel_rfl) rfl rfl (OpV.move (.inl rfl) rfl) ?_
    refine VA.take (i := 7) rfl (by kernel_rfl) (by kernel_rfl) (by kernel_rfl) rfl rfl (OpV.sub rfl rfl rfl (by unfold fits; omega)) ?_
    refine VA.take (i := 8) rfl (by kernel_rfl) (by kernel_rfl) (by kernel_rfl) rfl rfl (OpV.indexAddr_o rfl Tryz.underlying22 Tryz.sizeOf3 rfl rfl (show (j : Int) - 1 = ((j - 1 : Nat) : Int) by omega) (by omega)) ?_
    refine VA.take (i := 9) rfl (by kernel_rfl) (by kernel_rfl) (by kernel_rfl) rfl rfl (OpV.load_own (i := 0) rfl hB Tryz.isAgg3 rfl rfl (intsL_get (j := j - 1) (by omega)) (Wi.notD (by kernel_rfl))) ?_
    refine VA.take (i := 10) rfl (by kernel_rfl) (by kernel_rfl) (by kernel_rfl) rfl rfl (OpV.move (.inl rfl) rfl) ?_
    refine VA.take (i := 11) rfl (by kernel_rfl) (by kernel_rfl) (by kernel_rfl) rfl rfl (OpV.move (.inl rfl) rfl) ?_
    refine VA.take (i := 12) rfl (by kernel_rfl) (by kernel_rfl) (by kernel_rfl) rfl rfl (OpV.indexAddr_o rfl Tryz.underlying22 Tryz.sizeOf3 rfl rfl rfl (by omega)) ?_
    refine VA.take (i := 13) rfl (by kernel_rfl) (by kernel_rfl) (by kernel_rfl) rfl rfl (OpV.load_own (i := 0) rfl hB Tryz.isAgg3 rfl rfl (intsL_get (j := j) (by omega)) (Wi.notD (by kernel_rfl))) ?_
    refine VA.take (i := 14) rfl (by kernel_rfl) (by kernel_rfl) (by kernel_rfl) rfl rfl (OpV.indexAddr_o rfl Tryz.underlying22 Tryz.sizeOf3 rfl rfl rfl (by omega)) ?_
    refine VA.all (rs := [15]) (by kernel_rfl) (by decide) ?_
    refine ⟨⟨_, rfl, .inl rfl, ?_⟩, trivial⟩
    refine OpE.store1 (i := 0) rfl hB rfl Tryz.sizeOf3 rfl rfl rfl rfl rfl rfl (by rw [intsL_len]; omega) (intsL_set _ _ _) (by first | exact ⟨rfl, rfl⟩ | exact .inl ⟨rfl, rfl⟩ | exact .inr ⟨rfl, rfl⟩ | exact ⟨rfl, trivial⟩ | exact .inl ⟨rfl, trivial⟩ | exact .inr ⟨rfl, trivial⟩ | exact ⟨by decide, rfl⟩) ?_
    refine VA.take (i := 16) rfl (by kernel_rfl) (by kernel_rfl) (by kernel_rfl) rfl rfl (OpV.indexAddr_o rfl Tryz.underlying22 Tryz.sizeOf3 rfl rfl (show (j : Int) - 1 = ((j - 1 : Nat) : Int) by omega) (by omega)) ?_
    refine VA.all (rs := [17]) (by kernel_rfl) (by decide) ?_
    refine ⟨⟨_, rfl, .inl rfl, ?_⟩, trivial⟩
    refine OpE.store1 (i := 0) rfl hB rfl Tryz.sizeOf3 rfl rfl rfl rfl rfl rfl (by rw [intsL_len, List.length_set]; omega) (intsL_set _ _ _) (by first | exact ⟨rfl, rfl⟩ | exact .inl ⟨rfl, rfl⟩ | exact .inr ⟨rfl, rfl⟩ | exact ⟨rfl, trivial⟩ | exact .inl ⟨rfl, trivial⟩ | exact .inr ⟨rfl, trivial⟩ | exact ⟨by decide, rfl⟩) ?_
    refine VA.done (by kernel_rfl) ?_
    refine VC.region ?_
    refine VO.mv rfl rfl rfl rfl ?_
    refine VO.val rfl rfl (OpV.sub rfl rfl rfl (by unfold fits; omega)) ?_
    refine VO.ma rfl rfl rfl rfl ?_
    refine VO.nil ?_
    exact Exists.intro (⟨(j - 1, swp l2 j), by show j - 1 ≤ i; omega, by rw [← hd]; exact (downI_t (by omega) hc).symm, (swp_perm (by omega) (by omega)).trans hpl⟩) (And.intro (Le.mk hB [0] ⟨(by rw [show ((j - 1 : Nat) : Int) = (j : Int) - 1 by omega]; rfl), rfl, rfl, rfl, rfl, rfl, trivial⟩ rfl rfl (Nat.le_refl _)) (by first | omega | (show _ < _; omega) | (simp only []; omega)))
   ·have hc := hcb
    try simp only [qqT, qqF, qqN, qqM, qqL, qqE] at hc
    have hex : l2 = insT c l0 i := by first | exact (downI_f (.inl (by omega))).symm.trans hd | exact (downI_f (.inr (by omega))).symm.trans hd
    refine VC.le _ (Le.boxRow (i := 0) (n := l0.length) rfl (by rw [intsL_len, hlen2]; omega) hcap hmx) ?_
    refine VC.exit ?_
    refine VC.region ?_
    refine VO.mv rfl rfl rfl rfl ?_
    refine VO.val rfl rfl (OpV.add rfl rfl rfl (by unfold fits; omega)) ?_
    refine VO.ma rfl rfl rfl rfl ?_
    refine VO.nil ?_
    exact Exists.intro (⟨i + 1, Nat.succ_pos _, by omega⟩) (And.intro (Le.mk hB [0] ⟨rfl, rfl, rfl, rfl, rfl, trivial⟩ rfl (by dsimp only; rw [show i + 1 - 1 = i by omega, ← hex]; rfl) (Nat.le_refl _)) (by first | omega | (show _ < _; omega) | (simp only []; omega)))
  ·have aK2 := aK2b
   try simp only [qqT, qqF, qqN, qqM, qqL, qqE] at aK2
   refine VA.takeX (i := 4) rfl (by kernel_rfl) (by kernel_rfl) (by kernel_rfl) rfl rfl rfl rfl aK2b ?_
   refine VA.takeX (i := 5) rfl (by kernel_rfl) (by kernel_rfl) (by kernel_rfl) rfl rfl rfl rfl aK2b ?_
   refine VA.takeX (i := 6) rfl (by kernel_rfl) (by kernel_rfl) (by kernel_rfl) rfl rfl rfl rfl aK2b ?_
   refine VA.takeX (i := 7) rfl (by kernel_rfl) (by kernel_rfl) (by kernel_rfl) rfl rfl rfl rfl aK2b ?_
   refine VA.takeX (i := 8) rfl (by kernel_rfl) (by kernel_rfl) (by kernel_rfl) rfl rfl rfl rfl aK2b ?_
   refine VA.takeX (i := 9) rfl (by kernel_rfl) (by kernel_rfl) (by kernel_rfl) rfl rfl rfl rfl aK2b ?_
   refine VA.takeX (i := 10) rfl (by kernel_rfl) (by kernel_rfl) (by kernel_rfl) rfl rfl rfl rfl aK2b ?_
   refine VA.takeX (i := 11) rfl (by kernel_rfl) (by kernel_rfl) (by kernel_rfl) rfl rfl rfl rfl aK2b ?_
   refine VA.takeX (i := 12) rfl (by kernel_rfl) (by kernel_rfl) (by kernel_rfl) rfl rfl rfl rfl aK2b ?_
   refine VA.takeX (i := 13) rfl (by kernel_rfl) (by kernel_rfl) (by kernel_rfl) rfl rfl rfl rfl aK2b ?_
   refine VA.takeX (i := 14) rfl (by kernel_rfl) (by kernel_rfl) (by kernel_rfl) rfl rfl rfl rfl aK2b ?_
   refine VA.takeX (i := 15) rfl (by kernel_rfl) (by kernel_rfl) (by kernel_rfl) rfl rfl rfl rfl aK2b ?_
   refine VA.take (i := 16) rfl (by kernel_rfl) (by kernel_rfl) (by kernel_rfl) rfl rfl (OpV.pickF rfl rfl rfl rfl aK2b) ?_
   refine VA.done (by kernel_rfl) ?_
   refine VC.condF rfl rfl ?_
   have hex : l2 = insT c l0 i := by first | exact (downI_f (.inl (by omega))).symm.trans hd | exact (downI_f (.inr (by omega))).symm.trans hd
   refine VC.le _ (Le.boxRow (i := 0) (n := l0.length) rfl (by rw [intsL_len, hlen2]; omega) hcap hmx) ?_
   refine VC.exit ?_
   refine VC.region ?_
   refine VO.mv rfl rfl rfl rfl ?_
   refine VO.val rfl rfl (OpV.add rfl rfl rfl (by unfold fits; omega)) ?_
   refine VO.ma rfl rfl rfl rfl ?_
   refine VO.nil ?_
   exact Exists.intro (⟨i + 1, Nat.succ_pos _, by omega⟩) (And.intro (Le.mk hB [0] ⟨rfl, rfl, rfl, rfl, rfl, trivial⟩ rfl (by dsimp only; rw [show i + 1 - 1 = i by omega, ← hex]; rfl) (Nat.le_refl _)) (by first | omega | (show _ < _; omega) | (simp only []; omega)))
 ·have aH1 := aH1b
  try simp only [qqT, qqF, qqN, qqM, qqL, qqE] at aH1
  have hie : i - 1 = l0.length - 1 := by omega
  rw [hie]
  refine VC.exit ?_
  exact Exists.intro _ (And.intro (RetV.none Tryz.results337) (⟨rfl, rfl⟩))
end Go.Proofs.YtaaokimiadfidaaGreatDoor
namespace Go.Proofs.YtaaokimiadfidaaGreatDoor
open Go.RowKit
set_option linter.unusedVariables false
set_option linter.unusedSimpArgs false
theorem getDs {l : List Int} {i j : Nat} {x : Int} (hi : i < l.length) : (l.set i x).getD j 0 = if j = i then x else l.getD j 0 := by
 by_cases e : j = i
 ·subst e; simp [hi]
 ·rw [if_neg e, List.getD_eq_getElem?_getD, List.getElem?_set_ne (Ne.symm e), ← List.getD_eq_getElem?_getD]
theorem swp_get {l : List Int} {j : Nat} (h0 : 0 < j) (h : j < l.length) (k : Nat) : (swp l j).getD k 0 = if k = j - 1 then l.getD j 0 else if k = j then l.getD (j - 1) 0 else l.getD k 0 := by
 unfold swp
 rw [getDs (by rw [List.length_set]; omega), getDs h]
theorem swp_len (l : List Int) (j : Nat) : (swp l j).length = l.length := by simp [swp]
theorem downI_congr {c1 c2 : Int → Int → Int} {x : Int} : ∀ (j : Nat) (l : List Int), j < l.length → l.getD j 0 = x → (∀ k, k < j → 0 ≤ l.getD k 0 ∧ l.getD k 0 < x) → (∀ y, 0 ≤ y → y < x → (c1 x y < 0 ↔ c2 x y < 0)) → downI c1 j l = downI c2 j l
 | 0, l, _, _, _, _ => rfl
 | j + 1, l, hl, hx, hp, hc => by
  have h1 := hc (l.getD j 0) (hp j (by omega)).1 (hp j (by omega)).2
  rw [downI, downI, hx]
  by_cases h : c1 x (l.getD j 0) < 0
  ·rw [if_pos h, if_pos (h1.1 h)]
   refine downI_congr j _ (by rw [swp_len]; omega) ?_ (fun k hk => ?_) hc
   ·rw [swp_get (by omega) hl, if_pos (by omega), hx]
   ·rw [swp_get (by omega) hl, if_neg (by omega), if_neg (by omega)]; exact hp k (by omega)
  ·rw [if_neg h, if_neg (fun h2 => h (h1.2 h2))]
theorem downI_keep {c : Int → Int → Int} {b : Int} : ∀ (j : Nat) (l : List Int), j < l.length → (∀ k, k ≤ j → l.getD k 0 ≤ b) → (∀ k, k ≤ j → (downI c j l).getD k 0 ≤ b) ∧ ∀ k, j < k → (downI c j l).getD k 0 = l.getD k 0
 | 0, l, _, h => ⟨h, fun _ _ => rfl⟩
 | j + 1, l, hl, h => by
  rw [downI]
  split
  ·have hs := swp_get (l := l) (j := j + 1) (by omega) hl
   obtain ⟨h1, h2⟩ := downI_keep (c := c) (b := b) j (swp l (j + 1)) (by rw [swp_len]; omega) (fun k hk => by
    rw [hs]; split
    ·exact h _ (Nat.le_refl _)
    ·split
     ·exact h _ (by omega)
     ·exact h k (by omega))
   refine ⟨fun k hk => ?_, fun k hk => ?_⟩
   ·by_cases e : k = j + 1
    ·rw [h2 k (by omega), hs, if_neg (by omega), if_pos e]; exact h _ (by omega)
    ·exact h1 k (by omega)
   ·rw [h2 k (by omega), hs, if_neg (by omega), if_neg (by omega)]
  ·exact ⟨h, fun _ _ => rfl⟩
theorem idO_getD {n k : Nat} (h : k < n) : (idO n).getD k 0 = (k : Int) := by
 unfold idO
 rw [List.getD_eq_getElem?_getD, List.getElem?_map, List.getElem?_range h]; rfl
theorem insT_idO {c1 c2 : Int → Int → Int} {n : Nat} (hc : ∀ x y : Int, 0 ≤ y → y < x → x < n → (c1 x y < 0 ↔ c2 x y < 0)) : ∀ i, i < n → insT c1 (idO n) i = insT c2 (idO n) i ∧ (insT c1 (idO n) i).length = n ∧ (∀ k, k ≤ i → 0 ≤ (insT c1 (idO n) i).getD k 0 ∧ (insT c1 (idO n) i).getD k 0 ≤ i) ∧ ∀ k, i < k → k < n → (insT c1 (idO n) i).getD k 0 = (k : Int)
 | 0, h => ⟨rfl, idO_len n, fun k hk => by rw [show k = 0 by omega]; show 0 ≤ (idO n).getD 0 0 ∧ (idO n).getD 0 0 ≤ _; rw [idO_getD h]; omega, fun k _ hk => idO_getD hk⟩
 | i + 1, h => by
  obtain ⟨h1, h2, h3, h4⟩ := insT_idO hc i (by omega)
  have hp := insT_perm c1 (idO n) (i + 1) (.inl (by rw [idO_len]; omega))
  rw [insT, insT, ← h1]
  have e1 := h4 (i + 1) (by omega) h
  have hk := downI_keep (c := c1) (b := ((i + 1 : Nat) : Int)) (i + 1) (insT c1 (idO n) i) (by omega) (fun k hk => by
   by_cases e : k = i + 1
   ·subst e; rw [e1]; exact Int.le_refl _
   ·have := (h3 k (by omega)).2; omega)
  have hmem : ∀ k, k < n → 0 ≤ (downI c1 (i + 1) (insT c1 (idO n) i)).getD k 0 := fun k hk' => by
   have hm : (downI c1 (i + 1) (insT c1 (idO n) i)).getD k 0 ∈ idO n := by
    refine hp.subset ?_
    show _ ∈ downI c1 (i + 1) (insT c1 (idO n) i)
    have hl : k < (downI c1 (i + 1) (insT c1 (idO n) i)).length := by rw [show (downI c1 (i + 1) (insT c1 (idO n) i)).length = n from (hp.length_eq.trans (idO_len n))]; exact hk'
    rw [List.getD_eq_getElem?_getD, List.getElem?_eq_getElem hl]; exact List.getElem_mem hl
   exact ((idO_ord n).lt _ hm).1
  refine ⟨?_, hp.length_eq.trans (idO_len n), fun k hk' => ⟨hmem k (by omega), hk.1 k hk'⟩, fun k hk' hn => by rw [hk.2 k hk']; exact h4 k (by omega) hn⟩
  refine downI_congr (x := ((i + 1 : Nat) : Int)) (i + 1) _ (by omega) e1 (fun k hk' => by have := h3 k (by omega); omega) (fun y hy0 hy => hc _ y hy0 hy (by omega))
end Go.Proofs.YtaaokimiadfidaaGreatDoor
namespace Go.Proofs
open Go.Shelf
def Tryz.sorted108_ren : Go.Shelf.Ren := ⟨fun | 6 => 108 | 8 => 231 | 9 => 40 | 11 => 303 | 13 => 143 | 12 => 142 | 23 => 254 | 24 => 255 | 14 => 246 | 15 => 247 | 16 => 248 | 17 => 249 | 18 => 250 | 19 => 251 | 20 => 171 | 21 => 252 | 22 => 253 | 25 => 316 | 26 => 317 | 27 => 318 | 28 => 319 | 29 => 320 | 30 => 275 | 31 => 379 | n => n, fun | 26 => 9 | 28 => 159 | 24 => 67 | 0 => 0 | 3 => 3 | 37 => 191 | 48 => 282 | 50 => 284 | 4 => 4 | 40 => 276 | 39 => 275 | 45 => 197 | 5 => 5 | 9 => 9 | 51 => 333 | 55 => 337 | 57 => 380 | 58 => 381 | 33 => 50 | n => n, fun | n => n⟩
theorem Tryz.sorted108 : Go.Proofs.SlLaysZ.n6 Tryz.prog Tryz.sorted108_ren := {
 mixed := by kernel_rfl
 f6 := ⟨Tryz.f108.name, by decide, Tryz.func108.trans (congrArg some (by kernel_rfl))⟩
 f8 := ⟨Tryz.f231.name, by decide, Tryz.func231.trans (congrArg some (by kernel_rfl))⟩
 f11 := ⟨Tryz.f303.name, by decide, Tryz.func303.trans (congrArg some (by kernel_rfl))⟩
 t0 := Tryz.underlying0
 a0 := Tryz.isAgg0
 z0 := Tryz.sizeOf0
 v0 := Tryz.zeroValue0
 t24 := Tryz.underlying67
 a24 := Tryz.isAgg67
 z24 := Tryz.sizeOf67
 v24 := Tryz.zeroValue67
 t26 := Tryz.underlying9
 a26 := Tryz.isAgg9
 z26 := Tryz.sizeOf9
 v26 := Tryz.zeroValue9
 t28 := Tryz.underlying159
 a28 := Tryz.isAgg159
 z28 := Tryz.sizeOf159
 v28 := Tryz.zeroValue159
 i26 := by kernel_rfl }
def Tryz.sort40_ren : Go.Shelf.Ren := ⟨fun | 6 => 40 | 8 => 143 | 9 => 142 | 19 => 254 | 20 => 255 | 21 => 246 | 22 => 247 | 23 => 248 | 24 => 249 | 25 => 250 | 26 => 251 | 27 => 171 | 28 => 252 | 29 => 253 | 36 => 316 | 31 => 317 | 32 => 318 | 37 => 319 | 38 => 320 | 39 => 275 | 41 => 379 | n => n, fun | 27 => 67 | 29 => 9 | 3 => 3 | 32 => 191 | 26 => 67 | 0 => 0 | 44 => 282 | 46 => 284 | 4 => 4 | 36 => 276 | 35 => 275 | 41 => 197 | 5 => 5 | 9 => 9 | 53 => 333 | 57 => 337 | 63 => 380 | 64 => 381 | n => n, fun | n => n⟩
theorem Tryz.sort40 : Go.Proofs.SlLaysM.n6 Tryz.prog Tryz.sort40_ren := {
 mixed := by kernel_rfl
 f6 := ⟨Tryz.f40.name, by decide, Tryz.func40.trans (congrArg some (by kernel_rfl))⟩
 f8 := Tryz.func143.trans (congrArg some (by kernel_rfl))
 f9 := ⟨Tryz.f142.name, by decide, Tryz.func142.trans (congrArg some (by kernel_rfl))⟩
 f19 := Tryz.func254.trans (congrArg some (by kernel_rfl))
 f20 := Tryz.func255.trans (congrArg some (by kernel_rfl))
 f21 := ⟨Tryz.f246.name, by decide, Tryz.func246.trans (congrArg some (by kernel_rfl))⟩
 f22 := ⟨Tryz.f247.name, by decide, Tryz.func247.trans (congrArg some (by kernel_rfl))⟩
 f23 := ⟨Tryz.f248.name, by decide, Tryz.func248.trans (congrArg some (by kernel_rfl))⟩
 f24 := ⟨Tryz.f249.name, by decide, Tryz.func249.trans (congrArg some (by kernel_rfl))⟩
 f25 := ⟨Tryz.f250.name, by decide, Tryz.func250.trans (congrArg some (by kernel_rfl))⟩
 f26 := ⟨Tryz.f251.name, by decide, Tryz.func251.trans (congrArg some (by kernel_rfl))⟩
 f27 := ⟨Tryz.f171.name, by decide, Tryz.func171.trans (congrArg some (by kernel_rfl))⟩
 f28 := ⟨Tryz.f252.name, by decide, Tryz.func252.trans (congrArg some (by kernel_rfl))⟩
 f29 := ⟨Tryz.f253.name, by decide, Tryz.func253.trans (congrArg some (by kernel_rfl))⟩
 f31 := Tryz.func317.trans (congrArg some (by kernel_rfl))
 f32 := Tryz.func318.trans (congrArg some (by kernel_rfl))
 f36 := ⟨Tryz.f316.name, by decide, Tryz.func316.trans (congrArg some (by kernel_rfl))⟩
 f37 := ⟨Tryz.f319.name, by decide, Tryz.func319.trans (congrArg some (by kernel_rfl))⟩
 f38 := ⟨Tryz.f320.name, by decide, Tryz.func320.trans (congrArg some (by kernel_rfl))⟩
 f39 := ⟨Tryz.f275.name, by decide, Tryz.func275.trans (congrArg some (by kernel_rfl))⟩
 f41 := ⟨Tryz.f379.name, by decide, Tryz.func379.trans (congrArg some (by kernel_rfl))⟩
 t0 := Tryz.underlying0
 a0 := Tryz.isAgg0
 z0 := Tryz.sizeOf0
 v0 := Tryz.zeroValue0
 t3 := Tryz.underlying3
 a3 := Tryz.isAgg3
 z3 := Tryz.sizeOf3
 v3 := Tryz.zeroValue3
 t4 := Tryz.underlying4
 a4 := Tryz.isAgg4
 z4 := Tryz.sizeOf4
 v4 := Tryz.zeroValue4
 t5 := Tryz.underlying5
 a5 := Tryz.isAgg5
 z5 := Tryz.sizeOf5
 v5 := Tryz.zeroValue5
 t9 := Tryz.underlying9
 a9 := Tryz.isAgg9
 z9 := Tryz.sizeOf9
 v9 := Tryz.zeroValue9
 t26 := Tryz.underlying67
 a26 := Tryz.isAgg67
 z26 := Tryz.sizeOf67
 v26 := Tryz.zeroValue67
 t27 := Tryz.underlying67
 a27 := Tryz.isAgg67
 z27 := Tryz.sizeOf67
 v27 := Tryz.zeroValue67
 t29 := Tryz.underlying9
 a29 := Tryz.isAgg9
 z29 := Tryz.sizeOf9
 v29 := Tryz.zeroValue9
 t32 := Tryz.underlying191
 a32 := Tryz.isAgg191
 z32 := Tryz.sizeOf191
 v32 := Tryz.zeroValue191
 t35 := Tryz.underlying275
 a35 := Tryz.isAgg275
 z35 := Tryz.sizeOf275
 v35 := Tryz.zeroValue275
 t36 := Tryz.underlying276
 a36 := Tryz.isAgg276
 z36 := Tryz.sizeOf276
 v36 := Tryz.zeroValue276
 t41 := Tryz.underlying197
 a41 := Tryz.isAgg197
 z41 := Tryz.sizeOf197
 v41 := Tryz.zeroValue197
 t44 := Tryz.underlying282
 a44 := Tryz.isAgg282
 z44 := Tryz.sizeOf282
 v44 := Tryz.zeroValue282
 t46 := Tryz.underlying284
 a46 := Tryz.isAgg284
 z46 := Tryz.sizeOf284
 v46 := Tryz.zeroValue284
 t53 := Tryz.underlying333
 a53 := Tryz.isAgg333
 z53 := Tryz.sizeOf333
 v53 := Tryz.zeroValue333
 t57 := Tryz.underlying337
 a57 := Tryz.isAgg337
 z57 := Tryz.sizeOf337
 v57 := Tryz.zeroValue337
 t63 := Tryz.underlying380
 a63 := Tryz.isAgg380
 z63 := Tryz.sizeOf380
 v63 := Tryz.zeroValue380
 t64 := Tryz.underlying381
 a64 := Tryz.isAgg381
 z64 := Tryz.sizeOf381
 v64 := Tryz.zeroValue381 }
def Tryz.keys197_ren : Go.Shelf.Ren := ⟨fun | 7 => 197 | 10 => 285 | n => n, fun | 23 => 100 | 26 => 9 | 3 => 3 | 28 => 159 | 0 => 0 | 27 => 158 | 33 => 50 | 4 => 4 | n => n, fun | n => n⟩
theorem Tryz.keys197 : Go.Proofs.SlLaysZ.n7 Tryz.prog Tryz.keys197_ren := {
 mixed := by kernel_rfl
 f7 := ⟨Tryz.f197.name, by decide, Tryz.func197.trans (congrArg some (by kernel_rfl))⟩
 f10 := ⟨Tryz.f285.name, by decide, Tryz.func285.trans (congrArg some (by kernel_rfl))⟩
 t0 := Tryz.underlying0
 a0 := Tryz.isAgg0
 z0 := Tryz.sizeOf0
 v0 := Tryz.zeroValue0
 t4 := Tryz.underlying4
 a4 := Tryz.isAgg4
 z4 := Tryz.sizeOf4
 v4 := Tryz.zeroValue4
 t23 := Tryz.underlying100
 a23 := Tryz.isAgg100
 z23 := Tryz.sizeOf100
 v23 := Tryz.zeroValue100
 t26 := Tryz.underlying9
 a26 := Tryz.isAgg9
 z26 := Tryz.sizeOf9
 v26 := Tryz.zeroValue9
 t27 := Tryz.underlying158
 a27 := Tryz.isAgg158
 z27 := Tryz.sizeOf158
 v27 := Tryz.zeroValue158
 t28 := Tryz.underlying159
 a28 := Tryz.isAgg159
 z28 := Tryz.sizeOf159
 v28 := Tryz.zeroValue159
 t33 := Tryz.underlying50
 a33 := Tryz.isAgg50
 z33 := Tryz.sizeOf50
 v33 := Tryz.zeroValue50 }
end Go.Proofs
namespace Go.Proofs.YtaaokimiadfidaaGreatDoor
open Go.RowKit Go.Maps Go.Sort Go.Shelf
set_option linter.unusedVariables false
set_option linter.unusedSimpArgs false

def bytesOf (l : List UInt8) : ByteArray := ⟨l.toArray⟩
def sKeys {α : Type} (l : List (ByteArray × α)) : List ByteArray := ((l.map fun p => p.1.data.toList).mergeSort (fun x y => decide (x ≤ y))).map bytesOf
theorem sKeys_len {α : Type} (l : List (ByteArray × α)) : (sKeys l).length = l.length := by simp [sKeys]
theorem mput_keys {α : Type} (l : List (ByteArray × α)) (k : ByteArray) (x : α) : (mput l k x).map (·.1) = if mpos l k < l.length then l.map (·.1) else l.map (·.1) ++ [k] := by
 split
 ·rename_i h
  rw [mput_old l k x h, List.map_set]
  have := mpos_key l k h
  refine List.ext_getElem (by simp) fun i h1 h2 => ?_
  simp only [List.length_set, List.length_map] at h1
  rw [List.getElem_set]
  split
  ·rename_i e; subst e; simp [this]
  ·simp
 ·rename_i h
  rw [mput_new l k x (by have := mpos_le l k; omega)]; simp
theorem mpos_mem {α : Type} {l : List (ByteArray × α)} {k : ByteArray} : mpos l k < l.length ↔ k ∈ l.map (·.1) := by
 constructor
 ·intro h; exact List.mem_map.2 ⟨_, List.getElem_mem h, mpos_key l k h⟩
 ·intro h
  obtain ⟨p, hp, e⟩ := List.mem_map.1 h
  obtain ⟨j, hj, ej⟩ := List.getElem_of_mem hp
  by_cases h1 : mpos l k < l.length
  ·exact h1
  ·have hle := mpos_le l k
   obtain ⟨_, h2⟩ := mpos_ne l k j (by omega)
   exact absurd (by rw [ej]; exact e) h2
theorem mput_nodup {α : Type} {l : List (ByteArray × α)} (h : (l.map (·.1)).Nodup) (k : ByteArray) (x : α) : ((mput l k x).map (·.1)).Nodup := by
 rw [mput_keys]
 split
 ·exact h
 ·rename_i h1
  rw [mpos_mem] at h1
  exact List.nodup_append.2 ⟨h, by simp, fun a ha b hb => by simp at hb; subst hb; exact fun e => h1 (e ▸ ha)⟩
theorem mput_mem {α : Type} {l : List (ByteArray × α)} {k : ByteArray} {x : α} {q : ByteArray} : q ∈ (mput l k x).map (·.1) ↔ q ∈ l.map (·.1) ∨ q = k := by
 rw [mput_keys]
 split
 ·rename_i h1
  rw [mpos_mem] at h1
  exact ⟨.inl, fun h => h.elim id fun e => e ▸ h1⟩
 ·simp

section
variable {P : Program} {w : World} {kt : TypeId}
theorem own_of_mapE {α : Type} {E : α → AV} {g : Nat} {l : List (ByteArray × α)} {Z : Nat → Prop} (hk : P.underlying kt = some .string) (h : EntR w Z (mapE (fun k : ByteArray => Value.string k) g E l)) (hnd : (l.map (·.1)).Nodup) (hs : ∀ p ∈ l, p.1.size ≤ maxLen) (hl : l.length ≤ maxLen) :
  ∃ D : DataW Unit, w.ownsMap P kt (fun _ => some (.nil, [])) g l.length D ∧ Maps.size D = l.length ∧ (strKeys D).Perm (l.map fun p => p.1.data.toList) := by
 obtain ⟨c, h1, h2, h3⟩ := h.toMap
 have hmem : ∀ x ∈ c.toList, ∃ j, ∃ hj : j < l.length, x = c[j]! := fun x hx => by
  obtain ⟨j, hj, rfl⟩ := List.getElem_of_mem hx
  simp at hj
  exact ⟨j, by omega, by rw [getElem!_pos c j hj]; simp⟩
 have hrd : ∀ x ∈ c.toList, ∀ j (hj : j < l.length), x = c[j]! → WideElems.rd (H := Unit) P kt (fun _ => some (.nil, [])) x = some (.string (l[j]).1.data.toList, .nil) := fun x hx j hj e => by
  have hk1 := (h3 j hj).1
  obtain ⟨key, val, born⟩ := x
  have : key = .string (l[j]).1 := by rw [← hk1, ← e]
  subst this
  exact WideElems.rd_mk (R := fun _ => some (.nil, [])) (yv := (.nil, [])) (Go.WideMaps.keyOf_string_mk hk (hs _ (List.getElem_mem hj))) rfl
 have hF : WideElems.Fit (H := Unit) P kt (fun _ => some (.nil, [])) c l.length := ⟨by omega, (MapKept.stamped_iff _ _).2 ⟨fun x hx => by
   obtain ⟨j, hj, rfl⟩ := hmem x hx
   rw [(h3 j hj).2.1]; exact hj, by
   have : c.toList.map (·.born) = List.range' 0 l.length := by
    refine List.ext_getElem (by simp [h2]) fun i k1 k2 => ?_
    simp at k1
    have := (h3 i (by omega)).2.1
    rw [getElem!_pos c i k1] at this
    simp [this]
   rw [this]; exact List.nodup_range', by
   rw [List.pairwise_iff_getElem]
   intro i j hi hj hij e
   simp at hi hj
   have k1 := (h3 i (by omega)).1
   have k2 := (h3 j (by omega)).1
   rw [getElem!_pos c i hi] at k1
   rw [getElem!_pos c j hj] at k2
   simp only [Array.getElem_toList] at e
   rw [k1, k2] at e
   have e' : (l[i]'(by omega)).1 = (l[j]'(by omega)).1 := by injection e
   have := (List.pairwise_iff_getElem.1 hnd) i j (by simp; omega) (by simp; omega) hij
   simp at this
   exact this e'⟩, fun x hx => by
   obtain ⟨j, hj, e⟩ := hmem x hx
   exact ⟨_, hrd x hx j hj e⟩⟩
 refine ⟨_, ⟨c, l.length, h1, hF, by omega, rfl⟩, ?_, ?_⟩
 ·simp [Maps.size, (WideShapes.sorted_perm _).length_eq, h2]
 ·have hp := (WideShapes.sorted_perm (c.toList.map (WideElems.rg (H := Unit) P kt fun _ => some (.nil, []))))
  refine (hp.map (fun p => Go.strOf p.1)).trans (.of_eq ?_)
  refine List.ext_getElem (by simp [h2]) fun i k1 k2 => ?_
  simp at k1 k2
  have := hrd (c[i]!) (by rw [getElem!_pos c i (by omega)]; simp) i (by omega) rfl
  rw [getElem!_pos c i (by omega)] at this
  simp [WideElems.rg_of this]
  rfl
end

section
theorem sortsK (m : Nat) : AnyZ.SortsIn Tryz.prog Tryz.sorted108_ren Fence.wide m :=
  ⟨fun blk off cap ss W hH hblk hsz => callsIn_wide.2 (AnyM.slices_Sort_string Tryz.sort40 blk off cap ss W hH hblk hsz),
   fun p cap W => callsIn_wide.2 (AnyM.slices_Sort_string_none Tryz.sort40 p cap W)⟩
theorem maps_Keys_int (mb : Option Nat) : SpecH Tryz.prog 197 [.v (.map mb)] [] (fun y hp' => ∃ g, y = .v (.func (.func 285) #[] #[.pointer (some ⟨g, 0, none⟩)]) ∧ hp' = [.box g ⟨[.v (.map mb)], 100, 1⟩]) := fun w A us ha _ _ _ => by
 have hu : us = #[.map mb] := by
  have h0 := ha.2 0 (by simp)
  have h1 : us.size = 1 := ha.1
  have h2 := h0.eq_v
  apply Array.ext (by simp [h1])
  intro i hi1 hi2
  obtain rfl : i = 0 := by omega
  rw [Array.getD_eq_getD_getElem?, Array.getElem?_eq_getElem (by omega)] at h2
  simpa using h2
 subst hu
 refine ((callsIn_wide (n := 5)).1 (AnyZ.keys_in Tryz.keys197 Fence.wide 5 trivial rfl mb w)).mono ?_
 rintro e w' ⟨rfl, rfl⟩
 refine ⟨_, _, _, ⟨w.heap.size, rfl, rfl⟩, rfl, List.pairwise_singleton _ _, .v _, fun e he => ?_, fun b ⟨e, he, hb⟩ hl => ?_, ((Chg.refl NoB w).alloc _).any⟩
 ·simp at he; subst he
  exact ⟨_, heap_alloc_new w _, rfl, Nat.le_refl _, fun j hj => by simp at hj; subst hj; exact ⟨_, rfl, .v _⟩⟩
 ·simp at he; subst he
  simp [Ent.blk] at hb; omega
set_option maxHeartbeats 1000000 in
theorem slices_Sorted_int {α : Type} {E : α → AV} {g mg : Nat} {l : List (ByteArray × α)} (hnd : (l.map (·.1)).Nodup) (hs : ∀ p ∈ l, p.1.size ≤ maxLen) (hl : l.length ≤ 1000000) :
    SpecH Tryz.prog 108 [.v (.func (.func 285) #[] #[.pointer (some ⟨g, 0, none⟩)])] [.box g ⟨[.v (.map (some mg))], 100, 1⟩, mapE (fun k : ByteArray => Value.string k) mg E l]
      (fun y hp' => ∃ u, y = .v u ∧ hp' = [.row u l.length 1 (strsL (sKeys l)) 9, .box g ⟨[.v (.map (some mg))], 100, 1⟩, mapE (fun k : ByteArray => Value.string k) mg E l]) := fun w A us ha hap hA hE => by
  have hu : us = #[.func (.func 285) #[] #[.pointer (some ⟨g, 0, none⟩)]] := by
    have h0 := ha.2 0 (by simp)
    have h1 : us.size = 1 := ha.1
    have h2 := h0.eq_v
    apply Array.ext (by simp [h1])
    intro i hi1 hi2
    obtain rfl : i = 0 := by omega
    rw [Array.getD_eq_getD_getElem?, Array.getElem?_eq_getElem (by omega)] at h2
    simpa using h2
  subst hu
  have hB := hE _ (List.mem_cons_self ..)
  have hM := hE _ (List.mem_cons_of_mem _ (List.mem_cons_self ..))
  obtain ⟨c, b1, b2, b3, b4⟩ := hB
  have hc : c = #[.map (some mg)] := by
    obtain ⟨u, q1, q2⟩ := b4 0 (by simp)
    have := q2.eq_v
    simp at b2 this
    apply Array.ext (by simp [b2])
    intro i hi1 hi2
    obtain rfl : i = 0 := by omega
    rw [Array.getElem?_eq_getElem (by omega)] at q1
    cases q1
    simpa using this
  subst hc
  have hlen : l.length ≤ maxLen := by simp only [maxLen]; omega
  obtain ⟨D, d1, d2, d3⟩ := own_of_mapE (kt := 9) Tryz.underlying9 hM hnd hs hlen
  have hgl : g < w.heap.size := (Array.getElem?_eq_some_iff.1 b1).1
  have hcell : w.cell? ⟨g, 0, none⟩ = some (.map (some mg)) := by simp [World.cell?, b1]
  have hseq : SeqGives Fence.wide 2 Tryz.prog 285 #[.pointer (some ⟨g, 0, none⟩)] encStr (fun ss => ss.Perm (strKeys D)) (Maps.size D) w :=
    AnyZ.keys_gives (ρ := Tryz.keys197_ren) { Tryz.keys197 with } Fence.wide _ trivial rfl (by omega) g mg l.length D _ hgl hcell d1
  have hsz : Maps.size D ≤ maxLen := by rw [d2]; exact hlen
  have hby : Maps.size D * 16 ≤ 140737488355328 := by rw [d2]; omega
  refine ((callsIn_wide (n := 5)).1 (AnyZ.sorted_in Tryz.sorted108 Fence.wide 5 trivial trivial trivial trivial rfl (by omega) (sortsK _) (enters_of Tryz.func40 (by kernel_rfl) rfl) 285 #[.pointer (some ⟨g, 0, none⟩)] trivial (enters_of Tryz.func285 (by kernel_rfl) rfl) _ _ hsz hby _ hseq)).mono ?_
  rintro e w' ⟨v, ss, rfl, hS, hrow, hnil, hb⟩
  have hS' : ss.Perm (l.map fun p => p.1.data.toList) := hS.trans d3
  have hssl : ss.length = l.length := by simpa using hS'.length_eq
  have hkeys : (ss.mergeSort (fun x y => decide (x ≤ y))).map encStr = (sKeys l).map fun k => Value.string k := by
    have := mergeSort_of_perm hS'
    unfold leB at this
    rw [this, sKeys, List.map_map]
    rfl
  rw [hkeys] at hrow
  have hchg : Chg NoB w w' := (Chg.ofBelow hb).mono fun k h1 h2 => absurd h1 (Nat.not_lt.2 h2)
  obtain ⟨r1, r2⟩ := hrow
  have hZ : ∀ b, b < w.heap.size ∧ A b → Zh w A [.box g ⟨[.v (.map (some mg))], 100, 1⟩, mapE (fun k : ByteArray => Value.string k) mg E l] [.row v l.length 1 (strsL (sKeys l)) 9, .box g ⟨[.v (.map (some mg))], 100, 1⟩, mapE (fun k : ByteArray => Value.string k) mg E l] w' b := fun b ⟨hb1, hb2⟩ => by
    refine ⟨Nat.lt_of_lt_of_le hb1 hchg.size, fun ⟨e, he, heb⟩ => ?_, fun _ => .inl hb2⟩
    rcases List.mem_cons.1 he with rfl | he
    · rcases r2 with ⟨rfl, _⟩ | ⟨g2, cap, cur, rfl, hge, _⟩
      · simp [Ent.blk, Value.ownBlock] at heb
      · simp [Ent.blk, Value.ownBlock] at heb; omega
    · exact hA b ⟨e, he, heb⟩ hb2
  have hold : ∀ e ∈ [Ent.box g ⟨[.v (.map (some mg))], 100, 1⟩, mapE (fun k : ByteArray => Value.string k) mg E l], ∀ b, e.blk = some b → b < w.heap.size := fun e he b heb => by
    rcases List.mem_cons.1 he with rfl | he
    · simp [Ent.blk] at heb; omega
    · simp at he; subst he
      simp [Ent.blk] at heb
      obtain ⟨c2, k1, _⟩ := hM
      have := (Array.getElem?_eq_some_iff.1 k1).1
      omega
  refine ⟨_, _, _, ⟨v, rfl, rfl⟩, rfl, ?_, .v _, fun e he => ?_, fun b ⟨e, he, heb⟩ hl => ?_, hchg.any⟩
  · refine List.pairwise_cons.2 ⟨fun q hq b h1 h2 => ?_, hap⟩
    rcases r2 with ⟨rfl, _⟩ | ⟨g2, cap, cur, rfl, hge, _⟩
    · simp [Ent.blk, Value.ownBlock] at h1
    · simp [Ent.blk, Value.ownBlock] at h1
      have := hold q hq b h2
      omega
  · rcases List.mem_cons.1 he with rfl | he
    · refine ⟨by simp [strsL, sKeys_len], ?_⟩
      rcases r2 with ⟨rfl, hz⟩ | ⟨g2, cap, cur, rfl, hge, k1, k2, k3, k4, k5⟩
      · exact .inl ⟨rfl, by omega⟩
      · refine .inr ⟨g2, cap, cur, by rw [hssl], by omega, k3, k1, k4, fun j hj => ?_⟩
        have hj' : j < (sKeys l).length := by simpa [strsL] using hj
        have hcur : cur[j]? = some (.string ((sKeys l)[j])) := by
          have := congrArg (fun z => z[j]?) k5
          simp only [List.getElem?_map, List.getElem?_eq_getElem hj', Option.map_some] at this
          rw [List.getElem?_take] at this
          split at this
          · simpa using this
          · cases this
        exact ⟨_, hcur, by simp only [strsL, List.getElem_map]; exact .v _⟩
    · exact (hE e he).keep (fun b hb _ => ⟨hchg.block b hb.1 (fun h => h), hZ b hb⟩) fun b hb => hchg.block b (hold e he b hb) (fun h => h)
  · rcases List.mem_cons.1 he with rfl | he
    · rcases r2 with ⟨rfl, _⟩ | ⟨g2, cap, cur, rfl, hge, _⟩
      · simp [Ent.blk, Value.ownBlock] at heb
      · simp [Ent.blk, Value.ownBlock] at heb; omega
    · exact ⟨e, he, heb⟩
end
end Go.Proofs.YtaaokimiadfidaaGreatDoor
namespace Go.Proofs.YtaaokimiadfidaaGreatDoor
open Go.RowKit
set_option linter.unusedVariables false
set_option linter.unusedSimpArgs false

structure PlaceS where
 name : ByteArray
 part : ByteArray
 x : Int
 y : Int
 quarter : Int
instance : Inhabited PlaceS := ⟨⟨ByteArray.empty, ByteArray.empty, 0, 0, 0⟩⟩
instance : Sxc PlaceS where
 k := 5
 pos := by decide
 cell m j := match j with
  | 0 => avS m.name
  | 1 => avS m.part
  | 2 => avI m.x
  | 3 => avI m.y
  | 4 => avI m.quarter
  | _ => .any
structure ProdS where
 key : ByteArray
 wide : Int
 high : Int
 places : List PlaceS
instance : Inhabited ProdS := ⟨⟨ByteArray.empty, 0, 0, []⟩⟩
abbrev avProd (p : ProdS) : AV := .agg [avS p.key, avI p.wide, avI p.high, avL p.places]
abbrev boxProd (g : Nat) (p : ProdS) (ty : TypeId) : Ent := .box g ⟨[avS p.key, avI p.wide, avI p.high, avL p.places], ty, 4⟩
structure SmP (p : ProdS) : Prop where
 key : p.key.size ≤ 1000000
 len : p.places.length ≤ 1000000
 name : ∀ i, (p.places.getD i default).name.size ≤ 1000000
 part : ∀ i, (p.places.getD i default).part.size ≤ 1000000
def placeE (p : ProdS) (i : Nat) : Int :=
 if (keyF (p.places.getD i default).name && keyF (p.places.getD i default).part) = false then 5
 else if (decide (0 < i) && sLe (p.places.getD i default).name (p.places.getD (i - 1) default).name) = true then 7
 else if (outR (p.places.getD i default).x 0 p.wide || (outR (p.places.getD i default).y 0 p.high || outR (p.places.getD i default).quarter 0 3)) = true then 1
 else 0
def prodF (p : ProdS) : Int :=
 if keyF p.key = false then 5
 else if (outR p.wide 1 500000 || outR p.high 1 500000) = true then 1
 else if 1000 < p.places.length then 2
 else firstE (placeE p) p.places.length
section
variable {p : ProdS} {i : Nat}
theorem placeE_5a (h : keyF (p.places.getD i default).name = false) : placeE p i = 5 := by rw [placeE, if_pos (by rw [h]; rfl)]
theorem placeE_5b (h : keyF (p.places.getD i default).part = false) : placeE p i = 5 := by rw [placeE, if_pos (by rw [h, Bool.and_false])]
theorem placeE_7 (h1 : keyF (p.places.getD i default).name = true) (h2 : keyF (p.places.getD i default).part = true) (hi : 0 < i) (hs : sLe (p.places.getD i default).name (p.places.getD (i - 1) default).name = true) : placeE p i = 7 := by
 rw [placeE, if_neg (by rw [h1, h2]; simp), if_pos (by rw [hs, decide_eq_true hi]; rfl)]
theorem placeE_x (h1 : keyF (p.places.getD i default).name = true) (h2 : keyF (p.places.getD i default).part = true) (hs : i = 0 ∨ sLe (p.places.getD i default).name (p.places.getD (i - 1) default).name = false) :
  placeE p i = if (outR (p.places.getD i default).x 0 p.wide || (outR (p.places.getD i default).y 0 p.high || outR (p.places.getD i default).quarter 0 3)) = true then 1 else 0 := by
 rw [placeE, if_neg (by rw [h1, h2]; simp), if_neg]
 rcases hs with rfl | hs
 ·simp
 ·rw [hs]; simp
theorem placeE_1 (h1 : keyF (p.places.getD i default).name = true) (h2 : keyF (p.places.getD i default).part = true) (hs : i = 0 ∨ sLe (p.places.getD i default).name (p.places.getD (i - 1) default).name = false)
  (ho : (outR (p.places.getD i default).x 0 p.wide || (outR (p.places.getD i default).y 0 p.high || outR (p.places.getD i default).quarter 0 3)) = true) : placeE p i = 1 := by rw [placeE_x h1 h2 hs, if_pos ho]
theorem placeE_0 (h1 : keyF (p.places.getD i default).name = true) (h2 : keyF (p.places.getD i default).part = true) (hs : i = 0 ∨ sLe (p.places.getD i default).name (p.places.getD (i - 1) default).name = false)
  (ho : (outR (p.places.getD i default).x 0 p.wide || (outR (p.places.getD i default).y 0 p.high || outR (p.places.getD i default).quarter 0 3)) = false) : placeE p i = 0 := by rw [placeE_x h1 h2 hs, if_neg (by rw [ho]; simp)]
theorem prodF_5 (h : keyF p.key = false) : prodF p = 5 := by rw [prodF, if_pos h]
theorem prodF_1 (h : keyF p.key = true) (h1 : (outR p.wide 1 500000 || outR p.high 1 500000) = true) : prodF p = 1 := by rw [prodF, if_neg (by rw [h]; simp), if_pos h1]
theorem prodF_2 (h : keyF p.key = true) (h1 : (outR p.wide 1 500000 || outR p.high 1 500000) = false) (h2 : 1000 < p.places.length) : prodF p = 2 := by rw [prodF, if_neg (by rw [h]; simp), if_neg (by rw [h1]; simp), if_pos h2]
theorem prodF_x (h : keyF p.key = true) (h1 : (outR p.wide 1 500000 || outR p.high 1 500000) = false) (h2 : p.places.length ≤ 1000) : prodF p = firstE (placeE p) p.places.length := by rw [prodF, if_neg (by rw [h]; simp), if_neg (by rw [h1]; simp), if_neg (by omega)]
theorem prodF_at (h : keyF p.key = true) (h1 : (outR p.wide 1 500000 || outR p.high 1 500000) = false) (h2 : p.places.length ≤ 1000) {q : Nat} (hq : q < p.places.length) (hn : ∀ j, j < q → placeE p j = 0) {e : Int} (he : placeE p q = e) (h0 : e ≠ 0) : prodF p = e := by
 rw [prodF_x h h1 h2, firstE_found hn (by rw [he]; exact h0) hq, he]
theorem prodF_ok (h : keyF p.key = true) (h1 : (outR p.wide 1 500000 || outR p.high 1 500000) = false) (h2 : p.places.length ≤ 1000) (hn : ∀ j, j < p.places.length → placeE p j = 0) : prodF p = 0 := by
 rw [prodF_x h h1 h2, firstE_none hn]
end
structure ProdOk (p : ProdS) : Prop where
 key : keyF p.key = true
 wide : 1 ≤ p.wide ∧ p.wide ≤ 500000
 high : 1 ≤ p.high ∧ p.high ≤ 500000
 len : p.places.length ≤ 1000
 all : ∀ j, j < p.places.length → placeE p j = 0
theorem prodOk {p : ProdS} (h : prodF p = 0) : ProdOk p := by
 unfold prodF at h
 split at h
 ·cases h
 ·rename_i h1
  split at h
  ·cases h
  ·rename_i h2
   split at h
   ·cases h
   ·rename_i h3
    have h2' : (outR p.wide 1 500000 || outR p.high 1 500000) = false := by simpa using h2
    simp only [outR, Bool.or_eq_false_iff, decide_eq_false_iff_not] at h2'
    exact ⟨by simpa using h1, by omega, by omega, by omega, firstE_zero h⟩
def cntP (l : List PlaceS) : List (ByteArray × Int) := l.foldl (fun m x => mput m x.part (mgetD m x.part 0 + 1)) []
theorem cntP_snoc (l : List PlaceS) (x : PlaceS) : cntP (l ++ [x]) = mput (cntP l) x.part (mgetD (cntP l) x.part 0 + 1) := by simp [cntP]
theorem take_snocD {α : Type} {l : List α} {q : Nat} (h : q < l.length) (d : α) : l.take (q + 1) = l.take q ++ [l.getD q d] := by
 rw [List.take_add_one, List.getD_eq_getElem?_getD, List.getElem?_eq_getElem h]; rfl
theorem cntP_take {l : List PlaceS} {q : Nat} (h : q < l.length) : cntP (l.take (q + 1)) = mput (cntP (l.take q)) (l.getD q default).part (mgetD (cntP (l.take q)) (l.getD q default).part 0 + 1) := by
 rw [take_snocD h default, cntP_snoc]
theorem mget_mput {α : Type} : ∀ (l : List (ByteArray × α)) (k k' : ByteArray) (x : α), mget (mput l k x) k' = if k' = k then some x else mget l k'
 | [], k, k', x => by simp [mput, mget]
 | p :: r, k, k', x => by
  by_cases e : k = p.1
  ·subst e
   simp only [mput, if_true, mget]
   by_cases e2 : k' = p.1
   ·simp [e2]
   ·simp [e2]
  ·simp only [mput, if_neg e, mget]
   by_cases e2 : k' = p.1
   ·rw [if_pos e2, if_neg (fun h => e (h.symm.trans e2))]; simp [e2]
   ·rw [if_neg e2, mget_mput r k k' x]; simp [e2]
theorem mgetD_mput {α : Type} (l : List (ByteArray × α)) (k k' : ByteArray) (x z : α) : mgetD (mput l k x) k' z = if k' = k then x else mgetD l k' z := by
 unfold mgetD; rw [mget_mput]; split <;> rfl
theorem cntP_count : ∀ (l : List PlaceS) (m : List (ByteArray × Int)) (k : ByteArray), mgetD (l.foldl (fun m x => mput m x.part (mgetD m x.part 0 + 1)) m) k 0 = mgetD m k 0 + (l.filter fun x => decide (x.part = k)).length
 | [], m, k => by simp
 | x :: l, m, k => by
  rw [List.foldl_cons, cntP_count l, mgetD_mput]
  by_cases e : k = x.part
  ·subst e; simp; omega
  ·rw [if_neg e, List.filter_cons_of_neg (by simp; exact fun h => e h.symm)]
theorem cntP_get (l : List PlaceS) (k : ByteArray) : mgetD (cntP l) k 0 = (l.filter fun x => decide (x.part = k)).length := by
 rw [cntP, cntP_count]; simp [mgetD, mget]
theorem cntP_bd (l : List PlaceS) (k : ByteArray) : 0 ≤ mgetD (cntP l) k 0 ∧ mgetD (cntP l) k 0 ≤ l.length := by
 rw [cntP_get]
 have := List.length_filter_le (fun x : PlaceS => decide (x.part = k)) l
 omega
theorem cntP_nodup' : ∀ (l : List PlaceS) (m : List (ByteArray × Int)), (m.map (·.1)).Nodup → ((l.foldl (fun m x => mput m x.part (mgetD m x.part 0 + 1)) m).map (·.1)).Nodup
 | [], m, h => h
 | x :: l, m, h => cntP_nodup' l _ (mput_nodup h _ _)
theorem cntP_nodup (l : List PlaceS) : ((cntP l).map (·.1)).Nodup := cntP_nodup' l [] List.nodup_nil
theorem cntP_mem' : ∀ (l : List PlaceS) (m : List (ByteArray × Int)) (k : ByteArray), k ∈ (l.foldl (fun m x => mput m x.part (mgetD m x.part 0 + 1)) m).map (·.1) ↔ k ∈ m.map (·.1) ∨ ∃ x ∈ l, x.part = k
 | [], m, k => by simp
 | x :: l, m, k => by
  rw [List.foldl_cons, cntP_mem' l, mput_mem, or_assoc]
  simp only [List.mem_cons, exists_eq_or_imp]
  exact ⟨fun h => h.elim .inl fun h => h.elim (fun h => .inr (.inl h.symm)) fun h => .inr (.inr h), fun h => h.elim .inl fun h => h.elim (fun h => .inr (.inl h.symm)) fun h => .inr (.inr h)⟩
theorem cntP_mem {l : List PlaceS} {k : ByteArray} : k ∈ (cntP l).map (·.1) ↔ ∃ x ∈ l, x.part = k := by rw [cntP, cntP_mem']; simp
theorem cntP_len (l : List PlaceS) : (cntP l).length ≤ l.length := by
 unfold cntP
 have : ∀ (l : List PlaceS) (m : List (ByteArray × Int)), (l.foldl (fun m x => mput m x.part (mgetD m x.part 0 + 1)) m).length ≤ m.length + l.length := by
  intro l
  induction l with
  | nil => intro m; simp
  | cons x l ih =>
   intro m
   have := ih (mput m x.part (mgetD m x.part 0 + 1))
   have h2 := mput_len m x.part (mgetD m x.part 0 + 1)
   simp only [List.foldl_cons, List.length_cons]
   split at h2 <;> omega
 simpa using this l []
def needsL (p : ProdS) : List NeedS := (sKeys (cntP p.places)).map fun k => ⟨k, mgetD (cntP p.places) k 0⟩
def needsR (p : ProdS) : List NeedS := if prodF p = 0 then needsL p else []
theorem needsL_len (p : ProdS) : (needsL p).length = (cntP p.places).length := by simp [needsL, sKeys_len]
end Go.Proofs.YtaaokimiadfidaaGreatDoor
namespace Go.Proofs.YtaaokimiadfidaaGreatDoor
open Go.RowKit
set_option linter.unusedVariables false
set_option linter.unusedSimpArgs false
theorem mxl_ge : ∀ (xs : List Int) (m : Int), m ≤ maxF m xs ∧ ∀ x ∈ xs, x ≤ maxF m xs
 | [], m => ⟨Int.le_refl _, fun x h => by simp at h⟩
 | x :: r, m => by
  obtain ⟨h2, h3⟩ := mxl_ge r (max m x)
  rw [maxF]
  refine ⟨by omega, fun y hy => ?_⟩
  rcases List.mem_cons.1 hy with rfl | hy
  ·omega
  ·exact h3 y hy
theorem mxl_le {v : Int} : ∀ {xs : List Int} {m : Int}, m ≤ v → (∀ x ∈ xs, x ≤ v) → maxF m xs ≤ v
 | [], m, h, _ => h
 | x :: r, m, h, h2 => by
  rw [maxF]
  exact mxl_le (by have := h2 x (List.mem_cons_self ..); omega) fun y hy => h2 y (List.mem_cons_of_mem _ hy)
theorem maxL_iff {xs : List Int} (h : 0 < xs.length) (v : Int) : maxL xs ≤ v ↔ ∀ x ∈ xs, x ≤ v := by
 cases xs with
 | nil => simp at h
 | cons x r =>
  show maxF x r ≤ v ↔ _
  have h2 := mxl_ge r x
  constructor
  ·intro hv y hy
   rcases List.mem_cons.1 hy with rfl | hy
   ·omega
   ·have := h2.2 y hy; omega
  ·intro hv; exact mxl_le (hv x (List.mem_cons_self ..)) fun y hy => hv y (List.mem_cons_of_mem _ hy)
theorem tabI_mem {n : Nat} {f : Nat → Int} {x : Int} : x ∈ tabI n f ↔ ∃ k, k < n ∧ f k = x := by
 unfold tabI; rw [List.mem_map]
 exact ⟨fun ⟨k, h, e⟩ => ⟨k, List.mem_range.1 h, e⟩, fun ⟨k, h, e⟩ => ⟨k, List.mem_range.2 h, e⟩⟩
theorem maxL_tab {n : Nat} {f : Nat → Int} (hn : 0 < n) (h0 : ∀ k, 0 ≤ f k) : maxL (tabI n f) = mxK f n := by
 have hl : 0 < (tabI n f).length := by rw [tabI_len]; exact hn
 have h1 := (maxL_iff hl (maxL (tabI n f))).1 (Int.le_refl _)
 have hf : ∀ k, k < n → f k ≤ maxL (tabI n f) := fun k hk => h1 _ (tabI_mem.2 ⟨k, hk, rfl⟩)
 refine Int.le_antisymm ?_ (mxK_up (Int.le_trans (h0 0) (hf 0 hn)) hf)
 refine (maxL_iff hl _).2 fun x hx => ?_
 obtain ⟨k, hk, rfl⟩ := tabI_mem.1 hx
 exact (mxK_le (mxK_nn _ _)).1 (Int.le_refl _) k hk
section
variable {ms : List Mach} {ns : List NeedS}
theorem plB_in {pl : List Int} {k r : Nat} (h : r < pl.length) : plB pl k r = decide (pl.getD r 0 = (k : Int)) := by
 unfold plB; rw [decide_eq_true h, Bool.true_and]
theorem cyc_tim {pl : List Int} {k : Nat} : ∀ r, r ≤ pl.length → cyc ms ns pl k r = timB (ms.getD k default) ns (plB pl k) r
 | 0, _ => rfl
 | r + 1, h => by
  rw [cyc, timB, cyc_tim r (by omega), plB_in (by omega)]
  by_cases e : pl.getD r 0 = (k : Int)
  ·rw [if_pos e, if_pos (decide_eq_true e)]
  ·rw [if_neg e, if_neg (by rw [decide_eq_false e]; simp)]
theorem cnt_num {pl : List Int} {k : Nat} : ∀ r, r ≤ pl.length → cnt pl k r = (numB (plB pl k) r : Int)
 | 0, _ => rfl
 | r + 1, h => by
  rw [cnt, numB, cnt_num r (by omega), plB_in (by omega)]
  by_cases e : pl.getD r 0 = (k : Int)
  ·rw [if_pos e, if_pos (decide_eq_true e)]; rfl
  ·rw [if_neg e, if_neg (by rw [decide_eq_false e]; simp)]; rfl
theorem numB_mono (b : Nat → Bool) {r : Nat} : ∀ {t : Nat}, r ≤ t → numB b r ≤ numB b t
 | 0, h => by rw [show r = 0 by omega]; exact Nat.le_refl _
 | t + 1, h => by
  by_cases e : r = t + 1
  ·rw [e]; exact Nat.le_refl _
  ·have := numB_mono b (t := t) (r := r) (by omega)
   rw [numB]; omega
def InP (ms : List Mach) (pl : List Int) : Prop := ∀ i, i < pl.length → ∃ k : Nat, pl.getD i 0 = (k : Int) ∧ k < ms.length
structure VPlan (ms : List Mach) (ns : List NeedS) (pl : List Int) : Prop where
 len : pl.length = ns.length
 inp : InP ms pl
 ok : okP ms ns pl
theorem planF_valid (hm : machF ms = 0) {pl : List Int} : planF ms ns pl = 0 ↔ VPlan ms ns pl := by
 constructor
 ·intro h
  obtain ⟨hl, hE⟩ := planF_zero h
  refine ⟨hl, fun i hi => planE_ok (hE i hi), fun k hk => okB_iff.2 fun i hi => ?_⟩
  have hover : cnt pl k pl.length ≤ (ms.getD k default).feeders := by
   rw [planF, if_neg (by omega), firstE_none hE, if_neg (by decide)] at h
   have := firstE_zero h k hk
   unfold overE at this
   split at this
   ·cases this
   ·omega
  unfold okA
  rw [plB_in (by omega)]
  by_cases e : pl.getD i 0 = (k : Int)
  ·have hE' := hE i (by omega)
   unfold planE at hE'
   split at hE'
   ·cases hE'
   ·split at hE'
    ·cases hE'
    ·rename_i h1 h2
     rw [e, Int.toNat_natCast] at h2
     have h3 := numB_mono (plB pl k) (show i + 1 ≤ pl.length by omega)
     rw [cnt_num pl.length (Nat.le_refl _)] at hover
     have h4 : hasK (ms.getD k default) (ns.getD i default).key = true := by simpa using h2
     have h5 : decide (((numB (plB pl k) (i + 1) : Nat) : Int) ≤ (ms.getD k default).feeders) = true := decide_eq_true (by omega)
     rw [h4, h5]; cases decide (pl.getD i 0 = (k : Int)) <;> rfl
  ·rw [decide_eq_false e]; rfl
 ·rintro ⟨hl, hi, hok⟩
  refine planF_0 hl (fun j hj => ?_) fun k hk => ?_
  ·obtain ⟨k, e, hk⟩ := hi j hj
   refine planE_0 (by omega) ?_
   rw [e, Int.toNat_natCast]
   have := okB_iff.1 (hok k hk) j (by omega)
   unfold okA at this
   rw [plB_in hj, decide_eq_true e] at this
   simp [-List.getD_eq_getElem?_getD] at this
   exact this.1
  ·rw [cnt_num _ (Nat.le_refl _)]
   have hf := (machF_each hm hk).1.2.2.1
   have key : ∀ r, r ≤ ns.length → (numB (plB pl k) r : Int) ≤ (ms.getD k default).feeders := by
    intro r
    induction r with
    | zero => intro _; exact hf
    | succ r ih =>
     intro hr
     have := okB_iff.1 (hok k hk) r (by omega)
     unfold okA at this
     cases hb : plB pl k r with
     | true =>
      rw [hb] at this
      simp [-List.getD_eq_getElem?_getD] at this
      exact this.2
     | false => rw [numB, hb]; have := ih (by omega); simp [-List.getD_eq_getElem?_getD]; exact this
   exact key _ (by omega)
theorem MnOk.mk' (hm : machF ms = 0) (hn : needsF ns 1 1000 = 0) : MnOk ms ns := by
 refine ⟨fun k => ?_, fun k => ?_, fun i => ?_, needsF_len hn⟩
 ·by_cases hk : k < ms.length
  ·exact (machF_each hm hk).1.2.1
  ·rw [List.getD_eq_getElem?_getD, List.getElem?_eq_none (by omega)]; exact ⟨Int.le_refl _, by decide⟩
 ·by_cases hk : k < ms.length
  ·exact (machF_each hm hk).1.1
  ·rw [List.getD_eq_getElem?_getD, List.getElem?_eq_none (by omega)]; exact ⟨Int.le_refl _, by decide⟩
 ·by_cases hi : i < ns.length
  ·have := needsF_count hn hi; omega
  ·rw [List.getD_eq_getElem?_getD, List.getElem?_eq_none (by omega)]; exact ⟨Int.le_refl _, by decide⟩
theorem slowC_mx (hM : MnOk ms ns) (h0 : 0 < ms.length) {pl : List Int} (hl : pl.length = ns.length) : slowC ms ns pl = mxT ms ns pl := by
 unfold slowC cycL mxT
 rw [hl, maxL_tab h0]
 ·exact mxK_congr fun k _ => cyc_tim _ (by omega)
 ·intro k
  rw [cyc_tim _ (by omega)]
  exact (timB_in hM k _ _).1
theorem mxT_lt (hM : MnOk ms ns) (pl : List Int) : mxT ms ns pl < neverC := by
 have : mxT ms ns pl ≤ neverC - 1 := mxK_up (by decide) fun k _ => by have := timB_lt hM k (plB pl k) (Nat.le_refl ns.length); omega
 omega
theorem bst_least (hM : MnOk ms ns) {pl : List Int} (hv : VPlan ms ns pl) : bstV ms ns ns.length [] ≤ mxT ms ns pl := by
 have hlt := mxT_lt hM pl
 have h0 : 0 ≤ mxT ms ns pl := mxK_nn _ _
 refine (bstV_iff h0 hlt ns.length [] (by simp)).2 ⟨fun i => (pl.getD i 0).toNat, fun i _ hi => ?_, fun j hj => ?_⟩
 ·obtain ⟨k, e, hk⟩ := hv.inp i (by rw [hv.len]; exact hi)
  show (pl.getD i 0).toNat < _
  rw [e]; exact hk
 ·have e : cycB (ms.getD j default) ns (fun i => plB [] j i || ((decide (([] : List Int).length ≤ i) && decide (i < ns.length)) && decide ((pl.getD i 0).toNat = j))) = cycB (ms.getD j default) ns (plB pl j) := cycB_congr fun i hi => by
   obtain ⟨k, e, hk⟩ := hv.inp i (by rw [hv.len]; exact hi)
   have e0 : plB [] j i = false := by simp [plB]
   rw [e0, plB_in (pl := pl) (by rw [hv.len]; exact hi), e, Int.toNat_natCast]
   simp [hi]
   omega
  rw [e, ← mxC_ok hv.ok]
  exact (mxK_le (mxK_nn _ _)).1 (Int.le_refl _) j hj
theorem snoc_in {pl : List Int} (h : InP ms pl) {c : Nat} (hc : c < ms.length) : InP ms (pl ++ [(c : Int)]) := fun i hi => by
 by_cases e : i < pl.length
 ·rw [List.getD_eq_getElem?_getD, List.getElem?_append_left e, ← List.getD_eq_getElem?_getD]; exact h i e
 ·have : i = pl.length := by simp at hi; omega
  subst this
  exact ⟨c, by simp, hc⟩
theorem grd_spec (hM : MnOk ms ns) : ∀ (d : Nat) (pl : List Int), pl.length + d = ns.length → bstV ms ns d pl < neverC → InP ms pl → (grd ms ns d pl).length = ns.length ∧ InP ms (grd ms ns d pl) ∧ mxC ms ns (grd ms ns d pl) = bstV ms ns d pl
 | 0, pl, hl, _, hi => ⟨by rw [grd]; omega, hi, rfl⟩
 | d + 1, pl, hl, hv, hi => by
  rw [bstV] at hv
  obtain ⟨k, hk, e⟩ := mnK_at hv
  obtain ⟨s1, s2, s3⟩ := fsK_spec (fun k : Nat => bstV ms ns d (pl ++ [(k : Int)])) (bstV ms ns (d + 1) pl) ms.length
  have hlt : fsK (fun k : Nat => bstV ms ns d (pl ++ [(k : Int)])) (bstV ms ns (d + 1) pl) ms.length < ms.length := Classical.byContradiction fun hn => s2 k (by omega) e
  have e2 := s3 hlt
  have ih := grd_spec hM d (pl ++ [((fsK (fun k : Nat => bstV ms ns d (pl ++ [(k : Int)])) (bstV ms ns (d + 1) pl) ms.length : Nat) : Int)]) (by simp; omega) (by rw [e2]; exact hv) (snoc_in hi hlt)
  rw [grd]
  exact ⟨ih.1, ih.2.1, ih.2.2.trans e2⟩
theorem grd_ok (hM : MnOk ms ns) (h : bstV ms ns ns.length [] < neverC) : VPlan ms ns (grd ms ns ns.length []) ∧ mxT ms ns (grd ms ns ns.length []) = bstV ms ns ns.length [] := by
 obtain ⟨h1, h2, h3⟩ := grd_spec hM ns.length [] (by simp) h (fun i hi => absurd hi (Nat.not_lt_zero i))
 have hok : okP ms ns (grd ms ns ns.length []) := fun k hk => by
  have hc : cycB (ms.getD k default) ns (plB (grd ms ns ns.length []) k) ≤ mxC ms ns (grd ms ns ns.length []) := (mxK_le (mxK_nn _ _)).1 (Int.le_refl _) k hk
  unfold cycB at hc
  split at hc
  ·assumption
  ·omega
 exact ⟨⟨h1, h2, hok⟩, by rw [← mxC_ok hok]; exact h3⟩
theorem bst_valid (hM : MnOk ms ns) {pl : List Int} (hv : VPlan ms ns pl) : bstV ms ns ns.length [] < neverC := by
 have := bst_least hM hv
 have := mxT_lt hM pl
 omega
theorem betK_min {pl : List Int} {c : Int} {i : Nat} (h : ∀ k, k < ms.length → planF ms ns (pl.set i k) = 0 → c ≤ slowC ms ns (pl.set i k)) : ∀ K, K ≤ ms.length → betK ms ns pl c i K = (-1, c)
 | 0, _ => rfl
 | K + 1, hK => by
  have ih := betK_min h K (by omega)
  rw [betK_no, ih]
  rintro ⟨h1, h2⟩
  rw [ih] at h2
  have := h K (by omega) h1
  simp only at h2
  omega
theorem bet_none (hm : machF ms = 0) (hM : MnOk ms ns) {pl : List Int} (hv : VPlan ms ns pl) (he : mxT ms ns pl = bstV ms ns ns.length []) : betF ms ns pl pl.length 0 = (0, 0, false) := by
 have h0 := (machF_len hm).1
 refine betF_none fun j _ _ => ?_
 have := betK_min (ms := ms) (ns := ns) (pl := pl) (c := slowC ms ns pl) (i := j) (fun k hk hp => by
  have hv2 := (planF_valid hm).1 hp
  rw [slowC_mx hM h0 hv.len, slowC_mx hM h0 hv2.len, he]
  exact bst_least hM hv2) ms.length (Nat.le_refl _)
 rw [this]; show (-1 : Int) < 0; decide
def smN (f : Nat → Int) : Nat → Int
 | 0 => 0
 | k + 1 => smN f k + f k
theorem smN_congr {f g : Nat → Int} : ∀ {K}, (∀ k, k < K → f k = g k) → smN f K = smN g K
 | 0, _ => rfl
 | K + 1, h => by rw [smN, smN, smN_congr fun k hk => h k (by omega), h K (by omega)]
theorem smN_one {f : Nat → Int} {c : Nat} {a : Int} : ∀ K, smN (fun k => f k + if k = c then a else 0) K = smN f K + if c < K then a else 0
 | 0 => by simp [smN]
 | K + 1 => by
  rw [smN, smN, smN_one K]
  by_cases e : K = c
  ·subst e; rw [if_pos rfl, if_neg (by omega), if_pos (by omega)]; omega
  ·rw [if_neg e]
   by_cases h : c < K
   ·rw [if_pos h, if_pos (by omega)]; omega
   ·rw [if_neg h, if_neg (by omega)]; omega
theorem smN_le {f : Nat → Int} {x : Int} : ∀ K, (∀ k, k < K → f k ≤ x) → smN f K ≤ K * x
 | 0, _ => by simp [smN]
 | K + 1, h => by
  have := smN_le K fun k hk => h k (by omega)
  have := h K (by omega)
  rw [smN, Int.natCast_add, Int.add_mul]; omega
def wrk (ms : List Mach) (ns : List NeedS) (pl : List Int) : Nat → Int
 | 0 => 0
 | r + 1 => wrk ms ns pl r + (ms.getD (pl.getD r 0).toNat default).each * (ns.getD r default).count
theorem cyc_sum {pl : List Int} (h : InP ms pl) : ∀ r, r ≤ pl.length → smN (fun k => cyc ms ns pl k r) ms.length = smN (fun k => (ms.getD k default).fixed) ms.length + wrk ms ns pl r
 | 0, _ => by simp only [wrk, cyc]; omega
 | r + 1, hr => by
  obtain ⟨c, e, hc⟩ := h r (by omega)
  have e2 : smN (fun k => cyc ms ns pl k (r + 1)) ms.length = smN (fun k => cyc ms ns pl k r + if k = c then (ms.getD c default).each * (ns.getD r default).count else 0) ms.length := smN_congr fun k _ => by
   rw [cyc, e]
   by_cases h2 : k = c
   ·subst h2; rw [if_pos rfl, if_pos rfl]
   ·rw [if_neg (by omega), if_neg h2]; omega
  rw [e2, smN_one, if_pos hc, cyc_sum h r (by omega), wrk, e, Int.toNat_natCast]; omega
def lstE (ms : List Mach) (key : ByteArray) : Nat → Int
 | 0 => -1
 | k + 1 => if hasK (ms.getD k default) key = true ∧ (lstE ms key k < 0 ∨ (ms.getD k default).each < lstE ms key k) then (ms.getD k default).each else lstE ms key k
theorem lstE_le (hM : MnOk ms ns) {key : ByteArray} : ∀ {K k : Nat}, k < K → hasK (ms.getD k default) key = true → 0 ≤ lstE ms key K ∧ lstE ms key K ≤ (ms.getD k default).each
 | K + 1, k, h, hh => by
  rw [lstE]
  have h0 := hM.each K
  by_cases e : k = K
  ·subst e
   split
   ·exact ⟨h0.1, Int.le_refl _⟩
   ·rename_i h2
    rcases Classical.em (lstE ms key k < 0 ∨ (ms.getD k default).each < lstE ms key k) with h3 | h3
    ·exact absurd ⟨hh, h3⟩ h2
    ·omega
  ·have := lstE_le hM (show k < K by omega) hh
   split
   ·rename_i h3; have := h3.2; omega
   ·exact this
def bndS (ms : List Mach) (ns : List NeedS) : Nat → Int
 | 0 => smN (fun k => (ms.getD k default).fixed) ms.length
 | r + 1 => bndS ms ns r + max (lstE ms (ns.getD r default).key ms.length) 0 * (ns.getD r default).count
def bndF (ms : List Mach) (ns : List NeedS) : Int := max (mxK (fun k => (ms.getD k default).fixed) ms.length) (Int.tdiv (bndS ms ns ns.length + ms.length - 1) ms.length)
theorem lstE_each (hM : MnOk ms ns) {key : ByteArray} : ∀ K, -1 ≤ lstE ms key K ∧ lstE ms key K ≤ 10000000
 | 0 => ⟨Int.le_refl _, by simp [lstE]⟩
 | K + 1 => by
  have := lstE_each hM (key := key) K
  have := hM.each K
  rw [lstE]; split <;> omega
theorem smN_fix (hM : MnOk ms ns) : ∀ K, 0 ≤ smN (fun k => (ms.getD k default).fixed) K ∧ smN (fun k => (ms.getD k default).fixed) K ≤ 10000000 * K
 | 0 => by simp [smN]
 | K + 1 => by have := smN_fix hM K; have := hM.fix K; rw [smN]; omega
theorem bndS_in (hM : MnOk ms ns) : ∀ r, 0 ≤ bndS ms ns r ∧ bndS ms ns r ≤ 10000000 * ms.length + 10000000000 * r
 | 0 => by have := smN_fix hM ms.length; rw [bndS]; omega
 | r + 1 => by
  have ih := bndS_in hM r
  have h1 := lstE_each hM (key := (ns.getD r default).key) ms.length
  have h2 := mul_in2 (a := max (lstE ms (ns.getD r default).key ms.length) 0) (by omega) (hM.cnt r)
  rw [bndS]; omega
theorem mxK_fix (hM : MnOk ms ns) (K : Nat) : 0 ≤ mxK (fun k => (ms.getD k default).fixed) K ∧ mxK (fun k => (ms.getD k default).fixed) K ≤ 10000000 := ⟨mxK_nn _ _, mxK_up (by decide) fun k _ => (hM.fix k).2⟩
theorem bnd_wrk (hM : MnOk ms ns) {pl : List Int} (hv : VPlan ms ns pl) : ∀ r, r ≤ ns.length → bndS ms ns r ≤ smN (fun k => (ms.getD k default).fixed) ms.length + wrk ms ns pl r
 | 0, _ => by rw [bndS, wrk]; omega
 | r + 1, hr => by
  have ih := bnd_wrk hM hv r (by omega)
  obtain ⟨c, e, hc⟩ := hv.inp r (by rw [hv.len]; omega)
  have hh : hasK (ms.getD c default) (ns.getD r default).key = true := by
   have := okB_iff.1 (hv.ok c hc) r (by omega)
   unfold okA at this
   rw [plB_in (by rw [hv.len]; omega), decide_eq_true e] at this
   simp [-List.getD_eq_getElem?_getD] at this
   exact this.1
  have h1 := (lstE_le hM hc hh).2
  have h2 := hM.cnt r
  have h3 := hM.each c
  have h4 : max (lstE ms (ns.getD r default).key ms.length) 0 * (ns.getD r default).count ≤ (ms.getD c default).each * (ns.getD r default).count := Int.mul_le_mul_of_nonneg_right (by omega) h2.1
  rw [bndS, wrk, e, Int.toNat_natCast]; omega
theorem fix_le_cyc (hM : MnOk ms ns) (k : Nat) (b : Nat → Bool) : ∀ r, (ms.getD k default).fixed ≤ timB (ms.getD k default) ns b r
 | 0 => Int.le_refl _
 | r + 1 => by
  have := fix_le_cyc hM k b r
  have := mul_in2 (hM.each k) (hM.cnt r)
  rw [timB]; split <;> omega
theorem bnd_le (hM : MnOk ms ns) (h0 : 0 < ms.length) {pl : List Int} (hv : VPlan ms ns pl) : bndF ms ns ≤ mxT ms ns pl := by
 have hx := (mxK_le (F := fun k => timB (ms.getD k default) ns (plB pl k) ns.length) (mxK_nn _ ms.length) (K := ms.length)).1 (Int.le_refl _)
 have h1 : mxK (fun k => (ms.getD k default).fixed) ms.length ≤ mxT ms ns pl := mxK_up (mxK_nn _ _) fun k hk => Int.le_trans (fix_le_cyc hM k _ _) (hx k hk)
 have h2 := bnd_wrk hM hv ns.length (Nat.le_refl _)
 have h3 := cyc_sum (ns := ns) hv.inp ns.length (by rw [hv.len]; exact Nat.le_refl _)
 have h4 : smN (fun k => cyc ms ns pl k ns.length) ms.length ≤ ms.length * mxT ms ns pl := smN_le _ fun k hk => by
  rw [cyc_tim _ (by rw [hv.len]; exact Nat.le_refl _)]; exact hx k hk
 have h5 := bndS_in hM ns.length
 unfold bndF
 rw [Int.tdiv_eq_ediv_of_nonneg (by omega)]
 have h6 : (bndS ms ns ns.length + ms.length - 1) / (ms.length : Int) < mxT ms ns pl + 1 := Int.ediv_lt_of_lt_mul (by omega) (by
  rw [Int.add_mul, Int.one_mul, Int.mul_comm (mxT ms ns pl)]; omega)
 omega
def nobL (ms : List Mach) (ns : List NeedS) : List ByteArray := (ns.filter fun y => !(ms.any fun m => hasK m y.key)).map (·.key)
theorem nobL_take {q : Nat} (h : q < ns.length) : nobL ms (ns.take (q + 1)) = nobL ms (ns.take q) ++ if (ms.any fun m => hasK m (ns.getD q default).key) = true then [] else [(ns.getD q default).key] := by
 rw [take_snocD h default]
 unfold nobL
 rw [List.filter_append, List.map_append]
 congr 1
 split
 ·rename_i h2; rw [List.filter_cons_of_neg (by rw [h2]; simp)]; rfl
 ·rename_i h2; rw [List.filter_cons_of_pos (by simpa using h2)]; rfl
theorem nobL_len : (nobL ms ns).length ≤ ns.length := by
 unfold nobL; rw [List.length_map]; exact List.length_filter_le _ _
theorem nobL_nil {pl : List Int} (hv : VPlan ms ns pl) : nobL ms ns = [] := by
 unfold nobL
 rw [List.map_eq_nil_iff, List.filter_eq_nil_iff]
 intro y hy
 obtain ⟨i, hi, rfl⟩ := List.getElem_of_mem hy
 obtain ⟨c, e, hc⟩ := hv.inp i (by rw [hv.len]; exact hi)
 have := okB_iff.1 (hv.ok c hc) i hi
 unfold okA at this
 rw [plB_in (by rw [hv.len]; omega), decide_eq_true e] at this
 simp [-List.getD_eq_getElem?_getD] at this
 have h2 : (ms.any fun m => hasK m ns[i].key) = true := by
  refine List.any_eq_true.2 ⟨ms[c], List.getElem_mem hc, ?_⟩
  have h3 := this.1
  rw [List.getD_eq_getElem?_getD, List.getElem?_eq_getElem hc, List.getD_eq_getElem?_getD, List.getElem?_eq_getElem hi] at h3
  exact h3
 rw [h2]; simp
def pckF (f : Nat → Int) (ok : Nat → Bool) : Nat → Int
 | 0 => -1
 | k + 1 => if ok k = true ∧ (pckF f ok k < 0 ∨ f k < f (pckF f ok k).toNat) then (k : Int) else pckF f ok k
theorem pckF_in (f : Nat → Int) (ok : Nat → Bool) : ∀ K, pckF f ok K = -1 ∨ ∃ k : Nat, pckF f ok K = (k : Int) ∧ k < K ∧ ok k = true
 | 0 => .inl rfl
 | K + 1 => by
  rw [pckF]
  split
  ·rename_i h; exact .inr ⟨K, rfl, by omega, h.1⟩
  ·rcases pckF_in f ok K with h | ⟨k, h1, h2, h3⟩
   ·exact .inl h
   ·exact .inr ⟨k, h1, by omega, h3⟩
def fstC (ms : List Mach) (ns : List NeedS) (g : List Int) (i k : Nat) : Int := cyc ms ns g k g.length + (ms.getD k default).each * (ns.getD i default).count
def fstO (ms : List Mach) (ns : List NeedS) (g : List Int) (i k : Nat) : Bool := hasK (ms.getD k default) (ns.getD i default).key && decide (cnt g k g.length < (ms.getD k default).feeders)
def fstB (ms : List Mach) (ns : List NeedS) (g : List Int) (i : Nat) : Int := pckF (fstC ms ns g i) (fstO ms ns g i) ms.length
def fstG (ms : List Mach) (ns : List NeedS) : List Int → List Int → Option (List Int)
 | [], g => some g
 | i :: r, g => if fstB ms ns g i.toNat < 0 then none else fstG ms ns r (g.set i.toNat (fstB ms ns g i.toNat))
theorem fstG_step {l g : List Int} {q : Nat} (h : q < l.length) : fstG ms ns (l.drop q) g = if fstB ms ns g (l.getD q 0).toNat < 0 then none else fstG ms ns (l.drop (q + 1)) (g.set (l.getD q 0).toNat (fstB ms ns g (l.getD q 0).toNat)) := by
 rw [List.drop_eq_getElem_cons h, fstG, List.getD_eq_getElem?_getD, List.getElem?_eq_getElem h]; rfl
theorem fstG_end {l g : List Int} {q : Nat} (h : l.length ≤ q) : fstG ms ns (l.drop q) g = some g := by
 rw [List.drop_eq_nil_of_le h, fstG]
theorem cyc_set {g : List Int} {i k j : Nat} (hi : i < g.length) (h : g.getD i 0 = -1) : ∀ r, cyc ms ns (g.set i (k : Int)) j r = cyc ms ns g j r + if i < r ∧ k = j then (ms.getD j default).each * (ns.getD i default).count else 0
 | 0 => by simp [cyc]
 | r + 1 => by
  rw [cyc, cyc, cyc_set hi h r]
  by_cases e : r = i
  ·subst e
   have e1 : (g.set r (k : Int)).getD r 0 = (k : Int) := by simp [hi]
   rw [e1, h, if_neg (by omega : ¬ ((-1 : Int) = (j : Int))), if_neg (show ¬ (r < r ∧ k = j) by omega)]
   by_cases e2 : k = j
   ·subst e2; rw [if_pos rfl, if_pos ⟨by omega, rfl⟩]; omega
   ·rw [if_neg (by omega), if_neg (by omega)]
  ·have e1 : (g.set i (k : Int)).getD r 0 = g.getD r 0 := by
    rw [List.getD_eq_getElem?_getD, List.getElem?_set_ne (Ne.symm e), ← List.getD_eq_getElem?_getD]
   rw [e1]
   simp only [show (i < r + 1 ∧ k = j) ↔ (i < r ∧ k = j) by omega]
   generalize (if i < r ∧ k = j then (ms.getD j default).each * (ns.getD i default).count else 0) = X
   split <;> omega
theorem cnt_set {g : List Int} {i k j : Nat} (hi : i < g.length) (h : g.getD i 0 = -1) : ∀ r, cnt (g.set i (k : Int)) j r = cnt g j r + if i < r ∧ k = j then 1 else 0
 | 0 => by simp [cnt]
 | r + 1 => by
  rw [cnt, cnt, cnt_set hi h r]
  by_cases e : r = i
  ·subst e
   have e1 : (g.set r (k : Int)).getD r 0 = (k : Int) := by simp [hi]
   rw [e1, h, if_neg (by omega : ¬ ((-1 : Int) = (j : Int))), if_neg (show ¬ (r < r ∧ k = j) by omega)]
   by_cases e2 : k = j
   ·subst e2; rw [if_pos rfl, if_pos ⟨by omega, rfl⟩]
   ·rw [if_neg (by omega), if_neg (by omega)]
  ·have e1 : (g.set i (k : Int)).getD r 0 = g.getD r 0 := by
    rw [List.getD_eq_getElem?_getD, List.getElem?_set_ne (Ne.symm e), ← List.getD_eq_getElem?_getD]
   rw [e1]
   simp only [show (i < r + 1 ∧ k = j) ↔ (i < r ∧ k = j) by omega]
   generalize (if i < r ∧ k = j then (1 : Int) else 0) = X
   omega
structure FstI (ms : List Mach) (ns : List NeedS) (l : List Int) (q : Nat) (g : List Int) : Prop where
 len : g.length = ns.length
 el : ∀ i, i < ns.length → (g.getD i 0 = -1 ∧ (i : Int) ∉ l.take q) ∨ ((i : Int) ∈ l.take q ∧ ∃ k : Nat, g.getD i 0 = (k : Int) ∧ k < ms.length ∧ hasK (ms.getD k default) (ns.getD i default).key = true)
 feed : ∀ k, k < ms.length → cnt g k g.length ≤ (ms.getD k default).feeders
theorem cnt_none (n : Nat) (k : Nat) : ∀ r, r ≤ n → cnt (List.replicate n (-1)) k r = 0
 | 0, _ => rfl
 | r + 1, h => by
  rw [cnt, cnt_none n k r (by omega), show (List.replicate n (-1 : Int)).getD r 0 = -1 by simp [show r < n by omega], if_neg (by omega)]; rfl
theorem cyc_none (n : Nat) (k : Nat) : ∀ r, r ≤ n → cyc ms ns (List.replicate n (-1)) k r = (ms.getD k default).fixed
 | 0, _ => rfl
 | r + 1, h => by
  rw [cyc, cyc_none n k r (by omega), show (List.replicate n (-1 : Int)).getD r 0 = -1 by simp [show r < n by omega], if_neg (by omega)]
theorem FstI.zero (hm : machF ms = 0) (l : List Int) : FstI ms ns l 0 (List.replicate ns.length (-1)) :=
 ⟨by simp, fun i hi => .inl ⟨by simp [hi], by simp⟩, fun k hk => by rw [List.length_replicate, cnt_none _ _ _ (Nat.le_refl _)]; exact (machF_each hm hk).1.2.2.1⟩
theorem fstB_in {g : List Int} {i : Nat} (h : ¬ fstB ms ns g i < 0) : ∃ k : Nat, fstB ms ns g i = (k : Int) ∧ k < ms.length ∧ hasK (ms.getD k default) (ns.getD i default).key = true ∧ cnt g k g.length < (ms.getD k default).feeders := by
 rcases pckF_in (fstC ms ns g i) (fstO ms ns g i) ms.length with e | ⟨k, e, hk, ho⟩
 ·exact absurd (show fstB ms ns g i < 0 by unfold fstB; rw [e]; decide) h
 ·unfold fstO at ho
  rw [Bool.and_eq_true, decide_eq_true_eq] at ho
  exact ⟨k, e, hk, ho.1, ho.2⟩
theorem FstI.none {l g : List Int} {q i : Nat} (h : FstI ms ns l q g) (hd : l.Nodup) (hq : q < l.length) (hi : l.getD q 0 = (i : Int)) (hin : i < ns.length) : g.getD i 0 = -1 := by
 rcases h.el i hin with e | ⟨e, _⟩
 ·exact e.1
 ·exfalso
  obtain ⟨j, hj, e2⟩ := List.getElem_of_mem e
  rw [List.length_take] at hj
  rw [List.getElem_take] at e2
  rw [List.getD_eq_getElem?_getD, List.getElem?_eq_getElem hq] at hi
  have : j = q := (List.getElem_inj hd).1 (e2.trans (by simpa using hi.symm))
  omega
theorem FstI.step {l g : List Int} {q i k : Nat} (h : FstI ms ns l q g) (hd : l.Nodup) (hq : q < l.length) (hi : l.getD q 0 = (i : Int)) (hin : i < ns.length) (hk : k < ms.length) (h1 : hasK (ms.getD k default) (ns.getD i default).key = true) (h2 : cnt g k g.length < (ms.getD k default).feeders) : FstI ms ns l (q + 1) (g.set i (k : Int)) := by
 have hn := h.none hd hq hi hin
 have hil : i < g.length := by rw [h.len]; exact hin
 have htk : l.take (q + 1) = l.take q ++ [(i : Int)] := by rw [take_snocD hq 0, hi]
 refine ⟨by rw [List.length_set]; exact h.len, fun j hj => ?_, fun j hj => ?_⟩
 ·rw [htk]
  by_cases e : j = i
  ·subst e
   exact .inr ⟨by simp, k, by simp [hil], hk, h1⟩
  ·have e1 : (g.set i (k : Int)).getD j 0 = g.getD j 0 := by
    rw [List.getD_eq_getElem?_getD, List.getElem?_set_ne (Ne.symm e), ← List.getD_eq_getElem?_getD]
   rw [e1]
   rcases h.el j hj with h3 | ⟨h3, h4⟩
   ·exact .inl ⟨h3.1, fun hm => (List.mem_append.1 hm).elim h3.2 fun hm => by simp at hm; omega⟩
   ·exact .inr ⟨List.mem_append.2 (.inl h3), h4⟩
 ·rw [List.length_set, cnt_set hil hn]
  have := h.feed j hj
  by_cases e : k = j
  ·subst e; rw [if_pos ⟨hil, rfl⟩]; omega
  ·rw [if_neg (by omega)]; omega
theorem FstI.fin {l g : List Int} {q : Nat} (h : FstI ms ns l q g) (hm : machF ms = 0) (hq : l.length ≤ q) (hp : l.Perm (idO ns.length)) : VPlan ms ns g := by
 have hall : ∀ i, i < ns.length → ∃ k : Nat, g.getD i 0 = (k : Int) ∧ k < ms.length ∧ hasK (ms.getD k default) (ns.getD i default).key = true := fun i hi => by
  rcases h.el i hi with h1 | h1
  ·refine absurd (hp.symm.subset ?_) (by rw [List.take_of_length_le hq] at h1; exact h1.2)
   unfold idO; exact List.mem_map.2 ⟨i, List.mem_range.2 hi, rfl⟩
  ·exact h1.2
 refine (planF_valid hm).1 (planF_0 h.len (fun j hj => ?_) h.feed)
 obtain ⟨k, e, hk, hh⟩ := hall j (by rw [← h.len]; exact hj)
 exact planE_0 (by omega) (by rw [e, Int.toNat_natCast]; exact hh)
def zerG (g : List Int) : List Int := g.map fun x => if x < 0 then 0 else x
theorem zerG_len (g : List Int) : (zerG g).length = g.length := by simp [zerG]
theorem zerG_set {g : List Int} {i k : Nat} : (zerG g).set i (k : Int) = zerG (g.set i (k : Int)) := by
 unfold zerG
 rw [List.map_set, if_neg (by omega)]
theorem zerG_rep (n : Nat) : zerG (List.replicate n (-1)) = List.replicate n 0 := by simp [zerG]
theorem zerG_in {g : List Int} (h : InP ms g) : zerG g = g := by
 unfold zerG
 conv => rhs; rw [← List.map_id g]
 refine List.map_congr_left fun x hx => ?_
 obtain ⟨i, hi, rfl⟩ := List.getElem_of_mem hx
 obtain ⟨k, e, _⟩ := h i hi
 rw [List.getD_eq_getElem?_getD, List.getElem?_eq_getElem hi] at e
 have e' : g[i] = (k : Int) := by simpa using e
 rw [e', if_neg (by omega)]; rfl
def fstO1 (ns : List NeedS) (x y : Int) : Int := cmpI (ns.getD y.toNat default).count (ns.getD x.toNat default).count
def fstL (ns : List NeedS) : List Int := insT (fstO1 ns) (idO ns.length) ((idO ns.length).length - 1)
def fstR (ms : List Mach) (ns : List NeedS) : Option (List Int) := fstG ms ns (fstL ns) (List.replicate ns.length (-1))
theorem fstL_perm (ns : List NeedS) : (fstL ns).Perm (idO ns.length) := insT_perm _ _ _ (by omega)
theorem fstL_ord (ns : List NeedS) : Ord ns.length (fstL ns) := ⟨(fstL_perm ns).nodup_iff.2 (idO_ord _).nd, fun x hx => (idO_ord _).lt x ((fstL_perm ns).subset hx)⟩
theorem fstG_valid (hm : machF ms = 0) : ∀ (d q : Nat) (g r : List Int), (fstL ns).length ≤ q + d → FstI ms ns (fstL ns) q g → fstG ms ns ((fstL ns).drop q) g = some r → VPlan ms ns r
 | 0, q, g, r, hd, hI, he => by
  rw [fstG_end (show (fstL ns).length ≤ q from hd)] at he
  cases he
  exact hI.fin hm hd (fstL_perm ns)
 | d + 1, q, g, r, hd, hI, he => by
  by_cases hq : q < (fstL ns).length
  ·have hx := (fstL_ord ns).lt ((fstL ns).getD q 0) (by rw [List.getD_eq_getElem?_getD, List.getElem?_eq_getElem hq]; exact List.getElem_mem hq)
   rw [fstG_step hq] at he
   split at he
   ·cases he
   ·rename_i h1
    obtain ⟨k, e, hk, h2, h3⟩ := fstB_in h1
    rw [e] at he
    exact fstG_valid hm d (q + 1) _ r (by omega) (hI.step (fstL_ord ns).nd hq (by omega) (by omega) hk h2 h3) he
  ·rw [fstG_end (by omega)] at he
   cases he
   exact hI.fin hm (by omega) (fstL_perm ns)
theorem fstR_valid (hm : machF ms = 0) {r : List Int} (h : fstR ms ns = some r) : VPlan ms ns r := fstG_valid hm (fstL ns).length 0 _ r (by omega) (FstI.zero hm _) (by rw [List.drop_zero]; exact h)
end
end Go.Proofs.YtaaokimiadfidaaGreatDoor
namespace Go.Proofs.YtaaokimiadfidaaGreatDoor
open Go.RowKit
set_option linter.unusedVariables false
set_option linter.unusedSimpArgs false
structure SetI (r : Nat) (F : Nat → Int) (l : List Int) : Prop where
 len : l.length = r + 1
 at_ : ∀ s, SubN s r → l.getD s 0 = F s
structure SetG (r cur : Nat) (F : Nat → Int) (l : List Int) : Prop where
 len : l.length = r + 1
 sub : SubN cur r
 at_ : ∀ s, SubN s r → cur < s → l.getD s 0 = F s
section
variable {r cur : Nat} {F : Nat → Int} {l : List Int}
theorem SetG.lt (h : SetG r cur F l) : cur < l.length := by have := h.sub.le; have := h.len; omega
theorem SetG.start (h : l.length = r + 1) : SetG r r F l := ⟨h, SubN.refl r, fun s hs hlt => by have := hs.le; omega⟩
theorem SetG.next {x : Int} (h : SetG r cur F l) (h0 : cur ≠ 0) (hx : x = F cur) : SetG r ((cur - 1) &&& r) F (l.set cur x) :=
  ⟨by rw [List.length_set]; exact h.len, SubN.and_ _ _, fun s hs hlt => by
    rw [getDs h.lt]
    by_cases e : s = cur
    · rw [if_pos e, e, hx]
    · rw [if_neg e]
      refine h.at_ s hs (Classical.byContradiction fun hn => ?_)
      have := sub_next cur s r hs h.sub (by omega)
      omega⟩
theorem SetG.last {x : Int} (h : SetG r cur F l) (h0 : cur = 0) (hx : x = F cur) : SetI r F (l.set cur x) :=
 ⟨by rw [List.length_set]; exact h.len, fun s hs => by
  rw [getDs h.lt]
  by_cases e : s = cur
  ·rw [if_pos e, e, hx]
  ·rw [if_neg e]; exact h.at_ s hs (by omega)⟩
end
structure MinI (F : Nat → Int) (set cur : Nat) (v : Int) : Prop where
 sub : SubN cur set
 lo : 0 ≤ v
 hi : v ≤ neverC
 iff : ∀ x, 0 ≤ x → x < neverC → (v ≤ x ↔ ∃ t, SubN t set ∧ cur < t ∧ F t ≤ x)
section
variable {F : Nat → Int} {set cur : Nat} {v : Int}
theorem MinI.start (F : Nat → Int) (set : Nat) : MinI F set set neverC := ⟨SubN.refl _, by decide, Int.le_refl _, fun x h0 hx => ⟨fun h => by omega, fun ⟨t, h1, h2, _⟩ => by have := h1.le; omega⟩⟩
theorem MinI.next (h : MinI F set cur v) (hF : 0 ≤ F cur) (h0 : cur ≠ 0) : MinI F set ((cur - 1) &&& set) (min v (F cur)) :=
 ⟨SubN.and_ _ _, by have := h.lo; omega, by have := h.hi; omega, fun x hx0 hx => by
  have h1 := h.iff x hx0 hx
  constructor
  ·intro hm
   by_cases e : F cur ≤ x
   ·exact ⟨cur, h.sub, sub_dec h0, e⟩
   ·obtain ⟨t, t1, t2, t3⟩ := h1.1 (by omega)
    exact ⟨t, t1, by have := sub_dec (r := set) h0; omega, t3⟩
  ·rintro ⟨t, t1, t2, t3⟩
   by_cases e : t = cur
   ·subst e; omega
   ·by_cases e2 : cur < t
    ·have := h1.2 ⟨t, t1, e2, t3⟩; omega
    ·have := sub_next cur t set t1 h.sub (by omega); omega⟩
theorem MinI.last (h : MinI F set cur v) (hF : ∀ t, 0 ≤ F t) (h0 : cur = 0) : min v (F cur) = mnS F set := by
 have hl := h.lo
 have hh := h.hi
 have hc := hF cur
 refine eq_of_le (by omega) (mnS_never _ _) (by omega) (mnS_nn hF _) fun x hx0 hx => ?_
 rw [mnS_iff hx]
 have h1 := h.iff x hx0 hx
 constructor
 ·intro hm
  by_cases e : F cur ≤ x
  ·exact ⟨cur, h.sub, e⟩
  ·obtain ⟨t, t1, t2, t3⟩ := h1.1 (by omega)
   exact ⟨t, t1, t3⟩
 ·rintro ⟨t, t1, t3⟩
  by_cases e : t = cur
  ·subst e; omega
  ·have := h1.2 ⟨t, t1, by omega, t3⟩; omega
end
section
variable {ms : List Mach} {ns : List NeedS} {fx : Nat → Nat}
def mxBA (ms : List Mach) (ns : List NeedS) (fx : Nat → Nat) (k set t : Nat) : Int := max (belS ms ns fx k (ndiff set t)) (alnS ms ns fx k t)
theorem alnS_in (h : MnOk ms ns) (k t : Nat) : 0 ≤ alnS ms ns fx k t ∧ alnS ms ns fx k t ≤ neverC := cycB_in h k _
theorem mxBA_nn (h : MnOk ms ns) (k set t : Nat) : 0 ≤ mxBA ms ns fx k set t := by have := (alnS_in (fx := fx) h k t).1; unfold mxBA; omega
theorem SubN.of_sub {t set r : Nat} (h : SubN set r) : SubN (ndiff set t) r := (SubN.diff set t).trans h
theorem okB_no {m : Mach} {b : Nat → Bool} {i : Nat} (hi : i < ns.length) (h : okA m ns b i = false) : cycB m ns b = neverC := by
 unfold cycB
 rw [if_neg]
 intro h2
 rw [okB_iff.1 h2 i hi] at h; cases h
theorem okB_all {m : Mach} {b : Nat → Bool} (h : ∀ i, i < ns.length → okA m ns b i = true) : cycB m ns b = timB m ns b ns.length := by
 unfold cycB; rw [if_pos (okB_iff.2 h)]
end
end Go.Proofs.YtaaokimiadfidaaGreatDoor
namespace Go.Proofs.YtaaokimiadfidaaGreatDoor
open Go.RowKit
set_option linter.unusedVariables false
set_option linter.unusedSimpArgs false
section
variable {ms : List Mach} {ns : List NeedS}
def balE (ms : List Mach) (ns : List NeedS) : Int := if faultF ms ns ≠ 0 then faultF ms ns else if 12 < ns.length then 2 else 0
def balOk (ms : List Mach) (ns : List NeedS) : Bool := decide (balE ms ns = 0) && decide (bstV ms ns ns.length [] < neverC)
def balL (ms : List Mach) (ns : List NeedS) : List Int := if balOk ms ns = true then grd ms ns ns.length [] else []
def balV (ms : List Mach) (ns : List NeedS) : Int := if balOk ms ns = true then bstV ms ns ns.length [] else 0
theorem grd_next {pl : List Int} {d k : Nat} (hk : k < ms.length) (h : bstV ms ns d (pl ++ [(k : Int)]) = bstV ms ns (d + 1) pl) (hn : ∀ j, j < k → bstV ms ns d (pl ++ [(j : Int)]) ≠ bstV ms ns (d + 1) pl) : grd ms ns (d + 1) pl = grd ms ns d (pl ++ [(k : Int)]) := by
 rw [grd, fsK_eq hk h hn]
theorem grd_some {pl : List Int} {d : Nat} (h : bstV ms ns (d + 1) pl < neverC) (hn : ∀ j, j < ms.length → bstV ms ns d (pl ++ [(j : Int)]) ≠ bstV ms ns (d + 1) pl) : False := by
 obtain ⟨k, hk, e⟩ := mnK_at (F := fun k => bstV ms ns d (pl ++ [(k : Int)])) (K := ms.length) h
 exact hn k hk e
end
end Go.Proofs.YtaaokimiadfidaaGreatDoor
namespace Go.Proofs.YtaaokimiadfidaaGreatDoor
open Go.RowKit
set_option linter.unusedVariables false
set_option linter.unusedSimpArgs false
theorem ofInt64 (a : Nat) (ha : a < 9223372036854775808) : (BitVec.ofInt 64 (a : Int)).toNat = a := by
 rw [BitVec.ofInt_natCast, BitVec.toNat_ofNat]; exact Nat.mod_eq_of_lt (by omega)
theorem wrap64 (a : Nat) (ha : a < 9223372036854775808) : IntKind.i64.wrap (a : Int) = (a : Int) := IntWalk.i64_in _ (by omega)
theorem i64_and (a b : Nat) (ha : a < 9223372036854775808) (hb : b < 9223372036854775808) : Op.intBits .and .i64 (a : Int) (b : Int) = pure (.int .i64 ((a &&& b : Nat) : Int)) := by
 have hx : a &&& b < 2 ^ 63 := Nat.and_lt_two_pow _ (by omega)
 show pure (Value.int .i64 (IntKind.i64.wrap ((BitVec.ofInt 64 (a : Int) &&& BitVec.ofInt 64 (b : Int)).toNat : Int))) = _
 rw [BitVec.toNat_and, ofInt64 a ha, ofInt64 b hb, wrap64 _ (by omega)]
theorem i64_or (a b : Nat) (ha : a < 9223372036854775808) (hb : b < 9223372036854775808) : Op.intBits .or .i64 (a : Int) (b : Int) = pure (.int .i64 ((a ||| b : Nat) : Int)) := by
 have hx : a ||| b < 2 ^ 63 := Nat.or_lt_two_pow (by omega) (by omega)
 show pure (Value.int .i64 (IntKind.i64.wrap ((BitVec.ofInt 64 (a : Int) ||| BitVec.ofInt 64 (b : Int)).toNat : Int))) = _
 rw [BitVec.toNat_or, ofInt64 a ha, ofInt64 b hb, wrap64 _ (by omega)]
theorem i64_andNot (a b : Nat) (ha : a < 9223372036854775808) (hb : b < 9223372036854775808) : Op.intBits .andNot .i64 (a : Int) (b : Int) = pure (.int .i64 ((ndiff a b : Nat) : Int)) := by
 have hx : ndiff a b < 2 ^ 63 := Nat.xor_lt_two_pow (by omega) (Nat.lt_of_le_of_lt Nat.and_le_left (by omega))
 have e : (BitVec.ofInt 64 (a : Int) &&& ~~~BitVec.ofInt 64 (b : Int)).toNat = ndiff a b := by
  refine Nat.eq_of_testBit_eq fun i => ?_
  rw [ndiff_bit, BitVec.toNat_and, Nat.testBit_and, ofInt64 a ha, BitVec.testBit_toNat, BitVec.getLsbD_not, ← BitVec.testBit_toNat, ofInt64 b hb]
  cases h : a.testBit i with
  | false => rfl
  | true =>
   have hi : i < 64 := by
    refine Classical.byContradiction fun hn => ?_
    have := Nat.testBit_lt_two_pow (x := a) (i := i) (Nat.lt_of_lt_of_le (show a < 2 ^ 63 by omega) (Nat.pow_le_pow_right (by decide) (by omega)))
    rw [this] at h; cases h
   simp [hi]
 show pure (Value.int .i64 (IntKind.i64.wrap ((BitVec.ofInt 64 (a : Int) &&& ~~~BitVec.ofInt 64 (b : Int)).toNat : Int))) = _
 rw [e, wrap64 _ (by omega)]
section
variable {P : Program} {B : Bs} {W : Nat → Prop} {s : St'} {o : Oper} {t u : TypeId} {x y : Operand} {a b : Nat}
theorem OpV.band (ho : o.op = .binOp .and t x y u) (hx : evO s x = some (.v (.int .i64 (a : Int)))) (hy : evO s y = some (.v (.int .i64 (b : Int)))) (ha : a < 9223372036854775808) (hb : b < 9223372036854775808) : OpV P B W s o (avI ((a &&& b : Nat) : Int)) :=
 OpV.conc (fun a' w hr w' hcw => by simp [execOp, ho, hr.evv hx, hr.evv hy, eqGuard, binOp, i64_and a b ha hb])
theorem OpV.bor (ho : o.op = .binOp .or t x y u) (hx : evO s x = some (.v (.int .i64 (a : Int)))) (hy : evO s y = some (.v (.int .i64 (b : Int)))) (ha : a < 9223372036854775808) (hb : b < 9223372036854775808) : OpV P B W s o (avI ((a ||| b : Nat) : Int)) :=
 OpV.conc (fun a' w hr w' hcw => by simp [execOp, ho, hr.evv hx, hr.evv hy, eqGuard, binOp, i64_or a b ha hb])
theorem OpV.bdiff (ho : o.op = .binOp .andNot t x y u) (hx : evO s x = some (.v (.int .i64 (a : Int)))) (hy : evO s y = some (.v (.int .i64 (b : Int)))) (ha : a < 9223372036854775808) (hb : b < 9223372036854775808) : OpV P B W s o (avI ((ndiff a b : Nat) : Int)) :=
 OpV.conc (fun a' w hr w' hcw => by simp [execOp, ho, hr.evv hx, hr.evv hy, eqGuard, binOp, i64_andNot a b ha hb])
theorem OpV.bshl1 {k : IntKind} (ho : o.op = .binOp .shl t x y u) (hx : evO s x = some (.v (.int .i64 1))) (hy : evO s y = some (.v (.int k (b : Int)))) (hb : b ≤ 62) : OpV P B W s o (avI ((2 ^ b : Nat) : Int)) :=
 OpV.conc (fun a' w hr w' hcw => by
  have h1 : (2 : Nat) ^ b ≤ 2 ^ 62 := Nat.pow_le_pow_right (by decide) hb
  have e : IntKind.i64.wrap (1 * 2 ^ (min ((b : Int).toNat) IntKind.i64.bits)) = ((2 ^ b : Nat) : Int) := by
   rw [show min ((b : Int).toNat) IntKind.i64.bits = b from Nat.min_eq_left (by show b ≤ 64; omega), Int.one_mul, show ((2 : Int) ^ b) = ((2 ^ b : Nat) : Int) by simp]
   exact wrap64 _ (by omega)
  have h0 : ¬ ((b : Int) < 0) := by omega
  simp only [execOp, ho, hr.evv hx, hr.evv hy, eqGuard, binOp, Op.shift, if_neg h0, e]
  simp)
theorem OpV.bshr {k : IntKind} (ho : o.op = .binOp .shr t x y u) (hx : evO s x = some (.v (.int .i64 (a : Int)))) (hy : evO s y = some (.v (.int k (b : Int)))) (hb : b ≤ 62) : OpV P B W s o (avI ((a / 2 ^ b : Nat) : Int)) :=
 OpV.conc (fun a' w hr w' hcw => by
  have e : (a : Int).fdiv (2 ^ (min ((b : Int).toNat) IntKind.i64.bits)) = ((a / 2 ^ b : Nat) : Int) := by
   rw [show min ((b : Int).toNat) IntKind.i64.bits = b from Nat.min_eq_left (by show b ≤ 64; omega), Int.fdiv_eq_ediv_of_nonneg _ (Int.pow_nonneg (by decide)), show ((2 : Int) ^ b) = ((2 ^ b : Nat) : Int) by simp, Int.natCast_ediv]
  have h0 : ¬ ((b : Int) < 0) := by omega
  simp only [execOp, ho, hr.evv hx, hr.evv hy, eqGuard, binOp, Op.shift, if_neg h0, e]
  simp)
end
end Go.Proofs.YtaaokimiadfidaaGreatDoor
namespace Go.Proofs.YtaaokimiadfidaaGreatDoor
open Go.RowKit
set_option linter.unusedVariables false
set_option linter.unusedSimpArgs false
set_option maxRecDepth 100000 in
theorem line_can {m : Mach} {v : ByteArray} (hl : m.can.length ≤ 1000000000) (hs : SortS m.can) :
  SpecN Tryz.prog 179 [avT m, avS v] (fun y => y = avB (hasK m v)) := by
 refine SpecN.of_VCN Tryz.func179 rfl Tryz.ntmps179 (Nle rfl) fun w A hB => ?_
 have hnew : True := trivial
 refine VC.sr ?_
 refine VO.op rfl (OpE.box rfl hB rfl rfl rfl ?_)
 intro g2
 refine VO.ma rfl rfl rfl rfl ?_
 refine VO.nil ?_
 refine VC.sr ?_
 refine VO.val rfl rfl (OpV.fieldAddrO 4 rfl Tryz.underlying128 rfl rfl Tryz.sizeOf67 rfl) ?_
 refine VO.val rfl rfl (OpV.load_own (i := 0) rfl hB Tryz.isAgg67 rfl rfl rfl (fun h => h)) ?_
 refine VO.mv rfl rfl rfl rfl ?_
 refine VO.op rfl (OpE.call rfl hB rfl Tryz.call280 rfl (slices_BinarySearch_str hl hs) ?_)
 rintro _ ⟨n11, rfl⟩
 refine VO.mv rfl rfl rfl rfl ?_
 refine VO.val rfl rfl (OpV.extract rfl rfl rfl) ?_
 refine VO.val rfl rfl (OpV.extract rfl rfl rfl) ?_
 refine VO.ma rfl rfl rfl rfl ?_
 refine VO.ma rfl rfl rfl rfl ?_
 refine VO.nil ?_
 refine VC.sr ?_
 refine VO.mv rfl rfl rfl rfl ?_
 refine VO.ma rfl rfl rfl rfl ?_
 refine VO.nil ?_
 refine VC.ret ?_
 exact Exists.intro _ (And.intro (RetN.one Tryz.results179 (ResN.v rfl)) (rfl))
set_option maxRecDepth 100000 in
theorem line_planFault {ms : List Mach} {ns : List NeedS} {plan : List Int} (hm : machF ms = 0) (hn : ns.length ≤ 1000000000) (hp : plan.length ≤ 1000000000) :
  SpecN Tryz.prog 193 [avL ms, avL ns, avInts plan] (fun y => y = avI (planF ms ns plan)) := by
 have hlen := machF_len hm
 have hfe := fun k (hk : k < ms.length) => (machF_each hm hk).1.2.2.1
 refine SpecN.of_VCN Tryz.func193 rfl Tryz.ntmps193 (Nle rfl) fun w A hB => ?_
 have hnew : True := trivial
 refine VC.sr ?_
 refine VO.ma rfl rfl rfl rfl ?_
 refine VO.nil ?_
 refine VC.seq ?_
 refine VC.sr ?_
 refine VO.mv rfl rfl rfl rfl ?_
 refine VO.val rfl rfl (OpV.len_im rfl Tryz.underlying22 rfl) ?_
 refine VO.mv rfl rfl rfl rfl ?_
 refine VO.val rfl rfl (OpV.len_im rfl Tryz.underlying77 rfl) ?_
 refine VO.val rfl rfl (OpV.neq rfl rfl rfl) ?_
 refine VO.nil ?_
 refine VC.cond rfl (fun aH1b => ?_) (fun aH1b => ?_)
 ·have aH1 := aH1b
  try simp only [qqT, qqF, qqN, qqM, qqL, qqE] at aH1
  refine VC.sr ?_
  refine VO.ma rfl rfl rfl rfl ?_
  refine VO.nil ?_
  refine VC.ret ?_
  exact Exists.intro _ (And.intro (RetN.one Tryz.results193 (ResN.v rfl)) (by rw [planF_3 (by omega)]))
 ·have aH1 := aH1b
  try simp only [qqT, qqF, qqN, qqM, qqL, qqE] at aH1
  refine VC.skip ?_
  refine VC.seq ?_
  refine VC.sr ?_
  refine VO.mv rfl rfl rfl rfl ?_
  refine VO.val rfl rfl (OpV.len_im rfl Tryz.underlying22 rfl) ?_
  refine VO.mv rfl rfl rfl rfl ?_
  refine VO.nil ?_
  refine VC.block ?_
  refine VC.loopK [] trivial ({q : Nat // q ≤ plan.length ∧ ∀ j, j < q → planE ms ns plan j = 0}) (fun (iZ : {q : Nat // q ≤ plan.length ∧ ∀ j, j < q → planE ms ns plan j = 0}) => match iZ with | ⟨q, hq, he⟩ => [(0, avL ms), (1, avL ns), (2, avInts plan), (17, avInts plan), (18, avI plan.length), (19, avI (q : Int))]) (fun (iZ : {q : Nat // q ≤ plan.length ∧ ∀ j, j < q → planE ms ns plan j = 0}) => match iZ with | ⟨q, hq, he⟩ => []) (fun (iZ : {q : Nat // q ≤ plan.length ∧ ∀ j, j < q → planE ms ns plan j = 0}) => match iZ with | ⟨q, hq, he⟩ => 0) (fun (iZ : {q : Nat // q ≤ plan.length ∧ ∀ j, j < q → planE ms ns plan j = 0}) => match iZ with | ⟨q, hq, he⟩ => plan.length - q) ⟨0, Nat.zero_le _, fun j hj => absurd hj (Nat.not_lt_zero j)⟩ (Le.mk hB [] ⟨rfl, rfl, rfl, rfl, rfl, rfl, trivial⟩ rfl rfl (Nat.le_refl _)) ?_
  rintro ⟨q, hq, he⟩
  show VC _ _ _ _ ⟨[(0, avL ms), (1, avL ns), (2, avInts plan), (17, avInts plan), (18, avI plan.length), (19, avI (q : Int))] ++ [], [], 0⟩
  refine VC.sr ?_
  refine VO.val rfl rfl (OpV.lss rfl rfl rfl) ?_
  refine VO.nil ?_
  refine VC.seq ?_
  refine VC.cond rfl (fun aH2b => ?_) (fun aH2b => ?_)
  ·have aH2 := aH2b
   try simp only [qqT, qqF, qqN, qqM, qqL, qqE] at aH2
   refine VC.skip ?_
   refine VC.seq ?_
   refine VC.block ?_
   refine VC.sr ?_
   refine VO.mv rfl rfl rfl rfl ?_
   refine VO.val rfl rfl (OpV.indexAddr_1 rfl Tryz.underlying22 Tryz.sizeOf3 rfl rfl rfl (by omega)) ?_
   refine VO.val rfl rfl (OpV.load_at rfl hB OutW.no Tryz.isAgg3 rfl rfl) ?_
   refine VO.ma rfl rfl rfl rfl ?_
   refine VO.ma rfl rfl rfl rfl ?_
   refine VO.nil ?_
   refine VC.seq ?_
   refine VC.sr ?_
   refine VO.mv rfl rfl rfl rfl ?_
   refine VO.val rfl rfl (OpV.lss rfl rfl rfl) ?_
   refine VO.mv rfl rfl rfl rfl ?_
   refine VO.opG rfl rfl rfl rfl (fun aK3b => ?_) (fun aK3b => ?_)
   ·replace aK3b : _ = false := aK3b
    have aK3 := aK3b
    try simp only [qqT, qqF, qqN, qqM, qqL, qqE] at aK3
    refine OpE.val (W := NoB) (OpV.move (.inl rfl) rfl) rfl ?_
    refine VO.opY rfl rfl rfl rfl aK3b ?_
    refine OpE.val (W := NoB) (OpV.move (.inl rfl) rfl) rfl ?_
    refine VO.opY rfl rfl rfl rfl aK3b ?_
    refine OpE.val (W := NoB) (OpV.len_im rfl Tryz.underlying102 rfl) rfl ?_
    refine VO.opY rfl rfl rfl rfl aK3b ?_
    refine OpE.val (W := NoB) (OpV.geq rfl rfl rfl) rfl ?_
    refine VO.val rfl rfl (OpV.pickF rfl rfl rfl rfl aK3b) ?_
    refine VO.nil ?_
    refine VC.cond rfl (fun h8b => ?_) (fun h8b => ?_)
    ·have h8 := h8b
     try simp only [qqT, qqF, qqN, qqM, qqL, qqE] at h8
     refine VC.sr ?_
     refine VO.ma rfl rfl rfl rfl ?_
     refine VO.nil ?_
     refine VC.ret ?_
     exact Exists.intro _ (And.intro (RetN.one Tryz.results193 (ResN.v rfl)) (by rw [planF_at (by omega) (by omega) he (planE_8 (by omega)) (by decide)]))
    ·have h8 := h8b
     try simp only [qqT, qqF, qqN, qqM, qqL, qqE] at h8
     refine VC.skip ?_
     refine VC.seq ?_
     refine VC.draw (fun _ => NoB) hB (by kernel_rfl) ?_
     refine VA.take (i := 0) rfl (by kernel_rfl) (by kernel_rfl) (by kernel_rfl) rfl rfl (OpV.move (.inl rfl) rfl) ?_
     refine VA.take (i := 1) rfl (by kernel_rfl) (by kernel_rfl) (by kernel_rfl) rfl rfl (OpV.move (.inl rfl) rfl) ?_
     refine VA.take (i := 2) rfl (by kernel_rfl) (by kernel_rfl) (by kernel_rfl) rfl rfl (OpV.indexAddr_E rfl Tryz.underlying102 Tryz.sizeOf128 rfl rfl (Int.toNat_of_nonneg (by omega)).symm (by omega)) ?_
     refine VA.take (i := 3) rfl (by kernel_rfl) (by kernel_rfl) (by kernel_rfl) rfl rfl (OpV.loadK_at rfl hB OutW.wi0 Tryz.isAgg128 Tryz.sizeOf128 rfl rfl) ?_
     refine VA.take (i := 4) rfl (by kernel_rfl) (by kernel_rfl) (by kernel_rfl) rfl rfl (OpV.move (.inl rfl) rfl) ?_
     refine VA.take (i := 5) rfl (by kernel_rfl) (by kernel_rfl) (by kernel_rfl) rfl rfl (OpV.move (.inl rfl) rfl) ?_
     refine VA.take (i := 6) rfl (by kernel_rfl) (by kernel_rfl) (by kernel_rfl) rfl rfl (OpV.indexAddr_E rfl Tryz.underlying77 Tryz.sizeOf96 rfl rfl rfl (by omega)) ?_
     refine VA.take (i := 7) rfl (by kernel_rfl) (by kernel_rfl) (by kernel_rfl) rfl rfl (OpV.fieldAddr_atO 0 rfl Tryz.underlying96 rfl rfl Tryz.sizeOf9 rfl rfl) ?_
     refine VA.take (i := 8) rfl (by kernel_rfl) (by kernel_rfl) (by kernel_rfl) rfl rfl (OpV.load_at rfl hB OutW.wi0 Tryz.isAgg9 rfl rfl) ?_
     refine VA.all (rs := [9]) (by kernel_rfl) (by decide) ?_
     refine ⟨⟨_, rfl, .inl rfl, ?_⟩, trivial⟩
     refine OpE.call rfl hB rfl Tryz.call179 rfl (SpecN.spec (line_can (by have := canF_keys (machF_each hm (i := (plan.getD q 0).toNat) (by omega)).2; omega) (canF_sort (machF_each hm (by omega)).2))) ?_
     rintro _ rfl
     refine VA.take (i := 10) rfl (by kernel_rfl) (by kernel_rfl) (by kernel_rfl) rfl rfl (OpV.not rfl rfl) ?_
     refine VA.done (by kernel_rfl) ?_
     refine VC.cond rfl (fun h4b => ?_) (fun h4b => ?_)
     ·have h4 := h4b
      try simp only [qqT, qqF, qqN, qqM, qqL, qqE] at h4
      refine VC.sr ?_
      refine VO.ma rfl rfl rfl rfl ?_
      refine VO.nil ?_
      refine VC.ret ?_
      exact Exists.intro _ (And.intro (RetN.one Tryz.results193 (ResN.v rfl)) (by rw [planF_at (by omega) (by omega) he (planE_4 (by omega) h4) (by decide)]))
     ·have h4 := h4b
      try simp only [qqT, qqF, qqN, qqM, qqL, qqE] at h4
      refine VC.skip ?_
      refine VC.region ?_
      refine VO.val rfl rfl (OpV.add rfl rfl rfl (by unfold fits; omega)) ?_
      refine VO.mv rfl rfl rfl rfl ?_
      refine VO.nil ?_
      exact Exists.intro (⟨q + 1, by omega, lt_succ_cases he (planE_0 (by omega) h4)⟩) (And.intro (Le.mk hB [] ⟨rfl, rfl, rfl, rfl, rfl, rfl, trivial⟩ rfl rfl (Nat.le_refl _)) (by first | omega | (show _ < _; omega) | (simp only []; omega)))
   ·replace aK3b : _ = true := aK3b
    have aK3 := aK3b
    try simp only [qqT, qqF, qqN, qqM, qqL, qqE] at aK3
    refine VO.opX rfl rfl rfl rfl aK3b ?_
    refine VO.opX rfl rfl rfl rfl aK3b ?_
    refine VO.opX rfl rfl rfl rfl aK3b ?_
    refine VO.val rfl rfl (OpV.pickT rfl rfl rfl rfl aK3b) ?_
    refine VO.nil ?_
    refine VC.condT rfl rfl ?_
    refine VC.sr ?_
    refine VO.ma rfl rfl rfl rfl ?_
    refine VO.nil ?_
    refine VC.ret ?_
    exact Exists.intro _ (And.intro (RetN.one Tryz.results193 (ResN.v rfl)) (by rw [planF_at (by omega) (by omega) he (planE_8 (by omega)) (by decide)]))
  ·have aH2 := aH2b
   try simp only [qqT, qqF, qqN, qqM, qqL, qqE] at aH2
   refine VC.exit ?_
   refine VC.sr ?_
   refine VO.mv rfl rfl rfl rfl ?_
   refine VO.val rfl rfl (OpV.len_im rfl Tryz.underlying102 rfl) ?_
   refine VO.op rfl (OpE.make rfl hB rfl Tryz.underlying22 (infoOf Tryz.t3 1 (by kernel_rfl) rfl rfl) (by decide) rfl rfl (n := ms.length) rfl rfl (by omega) (made_ints _) ?_)
   intro g46
   refine VO.ma rfl rfl rfl rfl ?_
   refine VO.nil ?_
   refine VC.seq ?_
   refine VC.sr ?_
   refine VO.mv rfl rfl rfl rfl ?_
   refine VO.val rfl rfl (OpV.len_im rfl Tryz.underlying22 rfl) ?_
   refine VO.mv rfl rfl rfl rfl ?_
   refine VO.nil ?_
   refine VC.block ?_
   refine VC.loopK [] trivial ({r : Nat // r ≤ plan.length ∧ ∀ k, k < ms.length → cnt plan k r ≤ (ms.getD k default).feeders}) (fun (iZ : {r : Nat // r ≤ plan.length ∧ ∀ k, k < ms.length → cnt plan k r ≤ (ms.getD k default).feeders}) => match iZ with | ⟨r, hr, hc⟩ => [(0, avL ms), (9, .v (.slice (some ⟨g46, 0, none⟩) ms.length ms.length)), (47, avInts plan), (48, avI plan.length), (49, avI (r : Int))]) (fun (iZ : {r : Nat // r ≤ plan.length ∧ ∀ k, k < ms.length → cnt plan k r ≤ (ms.getD k default).feeders}) => match iZ with | ⟨r, hr, hc⟩ => [.box g46 ⟨intsL (tabI ms.length (fun k => cnt plan k r)), 3, (intsL (List.replicate ms.length 0)).length⟩]) (fun (iZ : {r : Nat // r ≤ plan.length ∧ ∀ k, k < ms.length → cnt plan k r ≤ (ms.getD k default).feeders}) => match iZ with | ⟨r, hr, hc⟩ => 0) (fun (iZ : {r : Nat // r ≤ plan.length ∧ ∀ k, k < ms.length → cnt plan k r ≤ (ms.getD k default).feeders}) => match iZ with | ⟨r, hr, hc⟩ => plan.length - r) ⟨0, Nat.zero_le _, hfe⟩ (Le.mk hB [0] ⟨rfl, rfl, rfl, rfl, rfl, trivial⟩ rfl (by rw [tabI_rep]; rfl) (Nat.le_refl _)) ?_
   rintro ⟨r, hr, hc⟩
   show VC _ _ _ _ ⟨[(0, avL ms), (9, .v (.slice (some ⟨g46, 0, none⟩) ms.length ms.length)), (47, avInts plan), (48, avI plan.length), (49, avI (r : Int))] ++ [], [.box g46 ⟨intsL (tabI ms.length (fun k => cnt plan k r)), 3, (intsL (List.replicate ms.length 0)).length⟩], 0⟩
   refine VC.sr ?_
   refine VO.val rfl rfl (OpV.lss rfl rfl rfl) ?_
   refine VO.nil ?_
   refine VC.seq ?_
   refine VC.cond rfl (fun aH4b => ?_) (fun aH4b => ?_)
   ·have aH4 := aH4b
    try simp only [qqT, qqF, qqN, qqM, qqL, qqE] at aH4
    obtain ⟨k, hk1, hk2⟩ := planE_ok (he r (by omega))
    have hcl := cnt_le plan k r
    refine VC.skip ?_
    refine VC.seq ?_
    refine VC.block ?_
    refine VC.sr ?_
    refine VO.val rfl rfl (OpV.indexAddr_1 rfl Tryz.underlying22 Tryz.sizeOf3 rfl rfl rfl (by omega)) ?_
    refine VO.val rfl rfl (OpV.load_at rfl hB OutW.no Tryz.isAgg3 rfl rfl) ?_
    refine VO.ma rfl rfl rfl rfl ?_
    refine VO.nil ?_
    refine VC.sr ?_
    refine VO.mv rfl rfl rfl rfl ?_
    refine VO.mv rfl rfl rfl rfl ?_
    refine VO.val rfl rfl (OpV.indexAddr_o rfl Tryz.underlying22 Tryz.sizeOf3 rfl rfl hk1 (by omega)) ?_
    refine VO.val rfl rfl (OpV.load_own (i := 0) rfl hB Tryz.isAgg3 rfl rfl (intsT_get hk2) (fun h => h)) ?_
    refine VO.val rfl rfl (OpV.add rfl rfl rfl (by unfold fits; omega)) ?_
    refine VO.val rfl rfl (OpV.indexAddr_o rfl Tryz.underlying22 Tryz.sizeOf3 rfl rfl hk1 (by omega)) ?_
    refine VO.op rfl (OpE.store1 (i := 0) rfl hB rfl Tryz.sizeOf3 rfl rfl rfl rfl rfl rfl (by rw [intsL_len, tabI_len]; exact hk2) ((intsL_set _ _ _).trans (congrArg intsL (tabI_set' (g := fun j => cnt plan j (r + 1)) (by rw [cnt, if_pos hk1]) (fun j hj hne => by rw [cnt, if_neg (by rw [hk1]; omega)]; omega)))) trivial ?_)
    refine VO.nil ?_
    refine VC.seq ?_
    refine VC.draw (fun _ => NoB) hB (by kernel_rfl) ?_
    refine VA.take (i := 0) rfl (by kernel_rfl) (by kernel_rfl) (by kernel_rfl) rfl rfl (OpV.move (.inl rfl) rfl) ?_
    refine VA.take (i := 1) rfl (by kernel_rfl) (by kernel_rfl) (by kernel_rfl) rfl rfl (OpV.move (.inl rfl) rfl) ?_
    refine VA.take (i := 2) rfl (by kernel_rfl) (by kernel_rfl) (by kernel_rfl) rfl rfl (OpV.indexAddr_o rfl Tryz.underlying22 Tryz.sizeOf3 rfl rfl hk1 (by omega)) ?_
    refine VA.take (i := 3) rfl (by kernel_rfl) (by kernel_rfl) (by kernel_rfl) rfl rfl (OpV.load_own (i := 0) rfl hB Tryz.isAgg3 rfl rfl (intsT_get hk2) Wi.not0) ?_
    refine VA.take (i := 4) rfl (by kernel_rfl) (by kernel_rfl) (by kernel_rfl) rfl rfl (OpV.move (.inl rfl) rfl) ?_
    refine VA.take (i := 5) rfl (by kernel_rfl) (by kernel_rfl) (by kernel_rfl) rfl rfl (OpV.move (.inl rfl) rfl) ?_
    refine VA.take (i := 6) rfl (by kernel_rfl) (by kernel_rfl) (by kernel_rfl) rfl rfl (OpV.indexAddr_E rfl Tryz.underlying102 Tryz.sizeOf128 rfl rfl hk1 (by omega)) ?_
    refine VA.take (i := 7) rfl (by kernel_rfl) (by kernel_rfl) (by kernel_rfl) rfl rfl (OpV.fieldAddr_atO 3 rfl Tryz.underlying128 rfl rfl Tryz.sizeOf3 rfl rfl) ?_
    refine VA.take (i := 8) rfl (by kernel_rfl) (by kernel_rfl) (by kernel_rfl) rfl rfl (OpV.load_at rfl hB OutW.wi0 Tryz.isAgg3 rfl rfl) ?_
    refine VA.take (i := 9) rfl (by kernel_rfl) (by kernel_rfl) (by kernel_rfl) rfl rfl (OpV.gtr rfl rfl rfl) ?_
    refine VA.done (by kernel_rfl) ?_
    refine VC.cond rfl (fun h12b => ?_) (fun h12b => ?_)
    ·have h12 := h12b
     try simp only [qqT, qqF, qqN, qqM, qqL, qqE] at h12
     refine VC.sr ?_
     refine VO.ma rfl rfl rfl rfl ?_
     refine VO.nil ?_
     refine VC.ret ?_
     exact Exists.intro _ (And.intro (RetN.one Tryz.results193 (ResN.v rfl)) (by rw [planF_12 (k := k) (by omega) (fun j hj => he j (by omega)) hk2 (Int.lt_of_lt_of_le h12 (cnt_mono _ _ (by omega)))]))
    ·have h12 := h12b
     try simp only [qqT, qqF, qqN, qqM, qqL, qqE] at h12
     refine VC.skip ?_
     refine VC.region ?_
     refine VO.val rfl rfl (OpV.add rfl rfl rfl (by unfold fits; omega)) ?_
     refine VO.mv rfl rfl rfl rfl ?_
     refine VO.nil ?_
     exact Exists.intro (⟨r + 1, by omega, fun j hj => by by_cases hjk : j = k; subst hjk; exact h12; (have := hc j hj; rw [cnt, if_neg (by rw [hk1]; omega)]; omega)⟩) (And.intro (Le.mk hB [0] ⟨rfl, rfl, rfl, rfl, rfl, trivial⟩ rfl rfl (Nat.le_refl _)) (by first | omega | (show _ < _; omega) | (simp only []; omega)))
   ·have aH4 := aH4b
    try simp only [qqT, qqF, qqN, qqM, qqL, qqE] at aH4
    refine VC.exit ?_
    refine VC.sr ?_
    refine VO.ma rfl rfl rfl rfl ?_
    refine VO.nil ?_
    refine VC.ret ?_
    exact Exists.intro _ (And.intro (RetN.one Tryz.results193 (ResN.v rfl)) (by rw [planF_0 (by omega) (fun j hj => he j (by omega)) (fun k hk => by have := hc k hk; rw [show plan.length = r by omega]; exact this)]))
end Go.Proofs.YtaaokimiadfidaaGreatDoor
namespace Go.Proofs.YtaaokimiadfidaaGreatDoor
open Go.RowKit
set_option linter.unusedVariables false
set_option linter.unusedSimpArgs false
set_option maxRecDepth 100000 in
theorem line_cycles {ms : List Mach} {ns : List NeedS} {plan : List Int} (hm : machF ms = 0) (hn : needsF ns 1 1000 = 0) (hp : planF ms ns plan = 0) :
  SpecN Tryz.prog 178 [avL ms, avL ns, avInts plan] (fun y => y = avInts (cycL ms ns plan)) := by
 have hlen := machF_len hm
 have hnl := needsF_len hn
 obtain ⟨hpl, he⟩ := planF_zero hp
 refine SpecN.of_VCN Tryz.func178 rfl Tryz.ntmps178 (Nle rfl) fun w A hB => ?_
 have hnew : True := trivial
 refine VC.sr ?_
 refine VO.ma rfl rfl rfl rfl ?_
 refine VO.nil ?_
 refine VC.sr ?_
 refine VO.mv rfl rfl rfl rfl ?_
 refine VO.val rfl rfl (OpV.len_im rfl Tryz.underlying102 rfl) ?_
 refine VO.op rfl (OpE.make rfl hB rfl Tryz.underlying22 (infoOf Tryz.t3 1 (by kernel_rfl) rfl rfl) (by decide) rfl rfl (n := ms.length) rfl rfl (by omega) (made_ints _) ?_)
 intro g14
 refine VO.ma rfl rfl rfl rfl ?_
 refine VO.nil ?_
 refine VC.seq ?_
 refine VC.sr ?_
 refine VO.mv rfl rfl rfl rfl ?_
 refine VO.val rfl rfl (OpV.len_im rfl Tryz.underlying102 rfl) ?_
 refine VO.mv rfl rfl rfl rfl ?_
 refine VO.nil ?_
 refine VC.block ?_
 refine VC.loopK [] trivial ({q : Nat // q ≤ ms.length}) (fun (iZ : {q : Nat // q ≤ ms.length}) => match iZ with | ⟨q, hq⟩ => [(0, avL ms), (1, avL ns), (2, avInts plan), (7, .v (.slice (some ⟨g14, 0, none⟩) ms.length ms.length)), (15, avL ms), (16, avI ms.length), (17, avI (q : Int))]) (fun (iZ : {q : Nat // q ≤ ms.length}) => match iZ with | ⟨q, hq⟩ => [.box g14 ⟨intsL (tabI ms.length (fun k => if k < q then (ms.getD k default).fixed else 0)), 3, (intsL (List.replicate ms.length 0)).length⟩]) (fun (iZ : {q : Nat // q ≤ ms.length}) => match iZ with | ⟨q, hq⟩ => 0) (fun (iZ : {q : Nat // q ≤ ms.length}) => match iZ with | ⟨q, hq⟩ => ms.length - q) ⟨0, Nat.zero_le _⟩ (Le.mk hB [0] ⟨rfl, rfl, rfl, rfl, rfl, rfl, rfl, trivial⟩ rfl (by rw [tabI_rep]; rfl) (Nat.le_refl _)) ?_
 rintro ⟨q, hq⟩
 show VC _ _ _ _ ⟨[(0, avL ms), (1, avL ns), (2, avInts plan), (7, .v (.slice (some ⟨g14, 0, none⟩) ms.length ms.length)), (15, avL ms), (16, avI ms.length), (17, avI (q : Int))] ++ [], [.box g14 ⟨intsL (tabI ms.length (fun k => if k < q then (ms.getD k default).fixed else 0)), 3, (intsL (List.replicate ms.length 0)).length⟩], 0⟩
 refine VC.sr ?_
 refine VO.val rfl rfl (OpV.lss rfl rfl rfl) ?_
 refine VO.nil ?_
 refine VC.seq ?_
 refine VC.cond rfl (fun aH1b => ?_) (fun aH1b => ?_)
 ·have aH1 := aH1b
  try simp only [qqT, qqF, qqN, qqM, qqL, qqE] at aH1
  refine VC.skip ?_
  refine VC.seq ?_
  refine VC.block ?_
  refine VC.sr ?_
  refine VO.mv rfl rfl rfl rfl ?_
  refine VO.val rfl rfl (OpV.indexAddr_E rfl Tryz.underlying102 Tryz.sizeOf128 rfl rfl rfl (by omega)) ?_
  refine VO.val rfl rfl (OpV.loadK_at rfl hB OutW.no Tryz.isAgg128 Tryz.sizeOf128 rfl rfl) ?_
  refine VO.op rfl (OpE.alloc rfl hB rfl Tryz.zeroValue128 rfl ?_)
  intro g9
  refine VO.ma rfl rfl rfl rfl ?_
  refine VO.op rfl (OpE.store (i := 1) rfl hB rfl Tryz.sizeOf128 rfl rfl rfl rfl rfl rfl (Nle rfl) trivial ?_)
  refine VO.nil ?_
  refine VC.region ?_
  refine VO.mv rfl rfl rfl rfl ?_
  refine VO.mv rfl rfl rfl rfl ?_
  refine VO.val rfl rfl (OpV.fieldAddrO 2 rfl Tryz.underlying128 rfl rfl Tryz.sizeOf3 rfl) ?_
  refine VO.val rfl rfl (OpV.load_own (i := 1) rfl hB Tryz.isAgg3 rfl rfl rfl (fun h => h)) ?_
  refine VO.val rfl rfl (OpV.indexAddr_o rfl Tryz.underlying22 Tryz.sizeOf3 rfl rfl rfl (by omega)) ?_
  refine VO.op rfl (OpE.store1 (i := 0) rfl hB rfl Tryz.sizeOf3 rfl rfl rfl rfl rfl rfl (by rw [intsL_len, tabI_len]; omega) ((intsL_set _ _ _).trans (congrArg intsL (tabI_set' (g := fun k => if k < q + 1 then (ms.getD k default).fixed else 0) (by rw [if_pos (by omega)]) (fun j hj hne => if_step hne)))) trivial ?_)
  refine VO.nil ?_
  refine VC.region ?_
  refine VO.val rfl rfl (OpV.add rfl rfl rfl (by unfold fits; omega)) ?_
  refine VO.mv rfl rfl rfl rfl ?_
  refine VO.nil ?_
  exact Exists.intro (⟨q + 1, by omega⟩) (And.intro (Le.mk hB [0] ⟨rfl, rfl, rfl, rfl, rfl, rfl, rfl, trivial⟩ rfl rfl (Nat.le_refl _)) (by first | omega | (show _ < _; omega) | (simp only []; omega)))
 ·have aH1 := aH1b
  try simp only [qqT, qqF, qqN, qqM, qqL, qqE] at aH1
  refine VC.exit ?_
  refine VC.seq ?_
  refine VC.sr ?_
  refine VO.mv rfl rfl rfl rfl ?_
  refine VO.val rfl rfl (OpV.len_im rfl Tryz.underlying22 rfl) ?_
  refine VO.mv rfl rfl rfl rfl ?_
  refine VO.nil ?_
  refine VC.block ?_
  refine VC.loopK [] trivial ({r : Nat // r ≤ plan.length}) (fun (iZ : {r : Nat // r ≤ plan.length}) => match iZ with | ⟨r, hr⟩ => [(0, avL ms), (1, avL ns), (7, .v (.slice (some ⟨g14, 0, none⟩) ms.length ms.length)), (28, avInts plan), (29, avI plan.length), (30, avI (r : Int))]) (fun (iZ : {r : Nat // r ≤ plan.length}) => match iZ with | ⟨r, hr⟩ => [.box g14 ⟨intsL (tabI ms.length (fun k => cyc ms ns plan k r)), 3, (intsL (List.replicate ms.length 0)).length⟩]) (fun (iZ : {r : Nat // r ≤ plan.length}) => match iZ with | ⟨r, hr⟩ => 0) (fun (iZ : {r : Nat // r ≤ plan.length}) => match iZ with | ⟨r, hr⟩ => plan.length - r) ⟨0, Nat.zero_le _⟩ (Le.mk hB [0] ⟨rfl, rfl, rfl, rfl, rfl, rfl, trivial⟩ rfl (congrArg (fun z => [Ent.box g14 ⟨intsL z, 3, (intsL (List.replicate ms.length 0)).length⟩]) (tabI_congr fun k hk => by rw [if_pos (by omega)]; rfl)) (Nat.le_refl _)) ?_
  rintro ⟨r, hr⟩
  show VC _ _ _ _ ⟨[(0, avL ms), (1, avL ns), (7, .v (.slice (some ⟨g14, 0, none⟩) ms.length ms.length)), (28, avInts plan), (29, avI plan.length), (30, avI (r : Int))] ++ [], [.box g14 ⟨intsL (tabI ms.length (fun k => cyc ms ns plan k r)), 3, (intsL (List.replicate ms.length 0)).length⟩], 0⟩
  refine VC.sr ?_
  refine VO.val rfl rfl (OpV.lss rfl rfl rfl) ?_
  refine VO.nil ?_
  refine VC.seq ?_
  refine VC.cond rfl (fun aH2b => ?_) (fun aH2b => ?_)
  ·have aH2 := aH2b
   try simp only [qqT, qqF, qqN, qqM, qqL, qqE] at aH2
   obtain ⟨k, hk1, hk2⟩ := planE_ok (he r (by omega))
   have hcy := cyc_in (plan := plan) hm hn hk2 (r := r) (by omega)
   have hmu := mul_in (machF_each hm hk2).1.1 (needsF_count hn (i := r) (by omega))
   refine VC.skip ?_
   refine VC.seq ?_
   refine VC.block ?_
   refine VC.sr ?_
   refine VO.mv rfl rfl rfl rfl ?_
   refine VO.val rfl rfl (OpV.indexAddr_1 rfl Tryz.underlying22 Tryz.sizeOf3 rfl rfl rfl (by omega)) ?_
   refine VO.val rfl rfl (OpV.load_at rfl hB OutW.no Tryz.isAgg3 rfl rfl) ?_
   refine VO.ma rfl rfl rfl rfl ?_
   refine VO.ma rfl rfl rfl rfl ?_
   refine VO.nil ?_
   refine VC.draw (fun j b => j = 17 ∧ b = g14) hB (by kernel_rfl) ?_
   refine VA.take (i := 0) rfl (by kernel_rfl) (by kernel_rfl) (by kernel_rfl) rfl rfl (OpV.move (.inl rfl) rfl) ?_
   refine VA.take (i := 1) rfl (by kernel_rfl) (by kernel_rfl) (by kernel_rfl) rfl rfl (OpV.move (.inl rfl) rfl) ?_
   refine VA.take (i := 2) rfl (by kernel_rfl) (by kernel_rfl) (by kernel_rfl) rfl rfl (OpV.indexAddr_o rfl Tryz.underlying22 Tryz.sizeOf3 rfl rfl hk1 (by omega)) ?_
   refine VA.take (i := 3) rfl (by kernel_rfl) (by kernel_rfl) (by kernel_rfl) rfl rfl (OpV.load_own (i := 0) rfl hB Tryz.isAgg3 rfl rfl (intsT_get hk2) (by first | exact Wi.not1 (by kernel_rfl) | exact Wi.not2 (by kernel_rfl) (by kernel_rfl) | exact Wi.notX (by kernel_rfl))) ?_
   refine VA.take (i := 4) rfl (by kernel_rfl) (by kernel_rfl) (by kernel_rfl) rfl rfl (OpV.move (.inl rfl) rfl) ?_
   refine VA.take (i := 5) rfl (by kernel_rfl) (by kernel_rfl) (by kernel_rfl) rfl rfl (OpV.move (.inl rfl) rfl) ?_
   refine VA.take (i := 6) rfl (by kernel_rfl) (by kernel_rfl) (by kernel_rfl) rfl rfl (OpV.indexAddr_E rfl Tryz.underlying102 Tryz.sizeOf128 rfl rfl hk1 (by omega)) ?_
   refine VA.take (i := 7) rfl (by kernel_rfl) (by kernel_rfl) (by kernel_rfl) rfl rfl (OpV.fieldAddr_atO 1 rfl Tryz.underlying128 rfl rfl Tryz.sizeOf3 rfl rfl) ?_
   refine VA.take (i := 8) rfl (by kernel_rfl) (by kernel_rfl) (by kernel_rfl) rfl rfl (OpV.load_at rfl hB (by first | exact OutW.wi1 (k := 0) rfl rfl) Tryz.isAgg3 rfl rfl) ?_
   refine VA.take (i := 9) rfl (by kernel_rfl) (by kernel_rfl) (by kernel_rfl) rfl rfl (OpV.move (.inl rfl) rfl) ?_
   refine VA.take (i := 10) rfl (by kernel_rfl) (by kernel_rfl) (by kernel_rfl) rfl rfl (OpV.move (.inl rfl) rfl) ?_
   refine VA.take (i := 11) rfl (by kernel_rfl) (by kernel_rfl) (by kernel_rfl) rfl rfl (OpV.indexAddr_E rfl Tryz.underlying77 Tryz.sizeOf96 rfl rfl rfl (by omega)) ?_
   refine VA.take (i := 12) rfl (by kernel_rfl) (by kernel_rfl) (by kernel_rfl) rfl rfl (OpV.fieldAddr_atO 1 rfl Tryz.underlying96 rfl rfl Tryz.sizeOf3 rfl rfl) ?_
   refine VA.take (i := 13) rfl (by kernel_rfl) (by kernel_rfl) (by kernel_rfl) rfl rfl (OpV.load_at rfl hB (by first | exact OutW.wi1 (k := 0) rfl rfl) Tryz.isAgg3 rfl rfl) ?_
   refine VA.take (i := 14) rfl (by kernel_rfl) (by kernel_rfl) (by kernel_rfl) rfl rfl (OpV.mul rfl rfl rfl (by unfold fits; omega)) ?_
   refine VA.take (i := 15) rfl (by kernel_rfl) (by kernel_rfl) (by kernel_rfl) rfl rfl (OpV.add rfl rfl rfl (by unfold fits; omega)) ?_
   refine VA.take (i := 16) rfl (by kernel_rfl) (by kernel_rfl) (by kernel_rfl) rfl rfl (OpV.indexAddr_o rfl Tryz.underlying22 Tryz.sizeOf3 rfl rfl hk1 (by omega)) ?_
   refine VA.all (rs := [17]) (by kernel_rfl) (by decide) ?_
   refine ⟨⟨_, rfl, .inl rfl, ?_⟩, trivial⟩
   refine OpE.store1 (i := 0) rfl hB rfl Tryz.sizeOf3 rfl rfl rfl rfl rfl rfl (by rw [intsL_len, tabI_len]; exact hk2) ((intsL_set _ _ _).trans (congrArg intsL (tabI_set' (g := fun j => cyc ms ns plan j (r + 1)) (by rw [cyc, if_pos hk1]) (fun j hj hne => by rw [cyc, if_neg (by rw [hk1]; omega)])))) (by first | exact ⟨rfl, rfl⟩ | exact .inl ⟨rfl, rfl⟩ | exact .inr ⟨rfl, rfl⟩ | exact ⟨rfl, trivial⟩ | exact .inl ⟨rfl, trivial⟩ | exact .inr ⟨rfl, trivial⟩ | exact ⟨by decide, rfl⟩) ?_
   refine VA.done (by kernel_rfl) ?_
   refine VC.region ?_
   refine VO.val rfl rfl (OpV.add rfl rfl rfl (by unfold fits; omega)) ?_
   refine VO.mv rfl rfl rfl rfl ?_
   refine VO.nil ?_
   exact Exists.intro (⟨r + 1, by omega⟩) (And.intro (Le.mk hB [0] ⟨rfl, rfl, rfl, rfl, rfl, rfl, trivial⟩ rfl rfl (Nat.le_refl _)) (by first | omega | (show _ < _; omega) | (simp only []; omega)))
  ·have aH2 := aH2b
   try simp only [qqT, qqF, qqN, qqM, qqL, qqE] at aH2
   refine VC.exit ?_
   refine VC.sr ?_
   refine VO.mv rfl rfl rfl rfl ?_
   refine VO.ma rfl rfl rfl rfl ?_
   refine VO.nil ?_
   refine VC.ret ?_
   exact Exists.intro _ (And.intro (RetN.one Tryz.results178 (ResN.boxI (i := 0) rfl rfl (tabI_len _ _).symm (Nat.le_refl _) (capM (by omega)))) (by rw [show r = plan.length by omega]; rfl))
set_option maxRecDepth 100000 in
theorem line_planned {ms : List Mach} {ns : List NeedS} {plan : List Int} (hm : SmallM ms) (hn : SmallN ns) (hp : plan.length ≤ 1000000000) :
  SpecN Tryz.prog 191 [avL ms, avL ns, avInts plan] (fun y => y = avI (lineF ms ns plan)) := by
 refine SpecN.of_VCN Tryz.func191 rfl Tryz.ntmps191 (Nle rfl) fun w A hB => ?_
 have hnew : True := trivial
 refine VC.sr ?_
 refine VO.ma rfl rfl rfl rfl ?_
 refine VO.nil ?_
 refine VC.seq ?_
 refine VC.sr ?_
 refine VO.mv rfl rfl rfl rfl ?_
 refine VO.mv rfl rfl rfl rfl ?_
 refine VO.op rfl (OpE.call rfl hB rfl Tryz.call172 rfl (SpecN.spec (line_fault hm.l hm.k hm.c hm.s hn.l hn.k)) ?_)
 rintro _ rfl
 refine VO.ma rfl rfl rfl rfl ?_
 refine VO.nil ?_
 refine VC.sr ?_
 refine VO.mv rfl rfl rfl rfl ?_
 refine VO.val rfl rfl (OpV.neq rfl rfl rfl) ?_
 refine VO.nil ?_
 refine VC.cond rfl (fun h0b => ?_) (fun h0b => ?_)
 ·have h0 := h0b
  try simp only [qqT, qqF, qqN, qqM, qqL, qqE] at h0
  refine VC.sr ?_
  refine VO.mv rfl rfl rfl rfl ?_
  refine VO.ma rfl rfl rfl rfl ?_
  refine VO.nil ?_
  refine VC.ret ?_
  exact Exists.intro _ (And.intro (RetN.one Tryz.results191 (ResN.v rfl)) (by first | rw [lineF, if_pos h0] | rw [lineF, if_neg h0]))
 ·have h0 := h0b
  try simp only [qqT, qqF, qqN, qqM, qqL, qqE] at h0
  refine VC.skip ?_
  refine VC.sr ?_
  refine VO.mv rfl rfl rfl rfl ?_
  refine VO.mv rfl rfl rfl rfl ?_
  refine VO.mv rfl rfl rfl rfl ?_
  refine VO.op rfl (OpE.call rfl hB rfl Tryz.call193 rfl (SpecN.spec (line_planFault (faultF_0 (ms := ms) (ns := ns) (by omega)).1 hn.l hp)) ?_)
  rintro _ rfl
  refine VO.ma rfl rfl rfl rfl ?_
  refine VO.nil ?_
  refine VC.ret ?_
  exact Exists.intro _ (And.intro (RetN.one Tryz.results191 (ResN.v rfl)) (by first | rw [lineF, if_pos h0] | rw [lineF, if_neg h0]))
set_option maxRecDepth 100000 in
theorem line_Slowest {ms : List Mach} {ns : List NeedS} {plan : List Int} (hm : SmallM ms) (hn : SmallN ns) (hp : plan.length ≤ 1000000000) :
  SpecN Tryz.prog 80 [avL ms, avL ns, avInts plan] (fun y => y = .tup [avI (if lineF ms ns plan = 0 then slowI ms ns plan else 0), avI (if lineF ms ns plan = 0 then slowC ms ns plan else 0), avI (lineF ms ns plan)]) := by
 refine SpecN.of_VCN Tryz.func80 rfl Tryz.ntmps80 (Nle rfl) fun w A hB => ?_
 have hnew : True := trivial
 refine VC.sr ?_
 refine VO.ma rfl rfl rfl rfl ?_
 refine VO.ma rfl rfl rfl rfl ?_
 refine VO.ma rfl rfl rfl rfl ?_
 refine VO.nil ?_
 refine VC.seq ?_
 refine VC.sr ?_
 refine VO.mv rfl rfl rfl rfl ?_
 refine VO.mv rfl rfl rfl rfl ?_
 refine VO.mv rfl rfl rfl rfl ?_
 refine VO.op rfl (OpE.call rfl hB rfl Tryz.call191 rfl (SpecN.spec (line_planned hm hn hp)) ?_)
 rintro _ rfl
 refine VO.ma rfl rfl rfl rfl ?_
 refine VO.nil ?_
 refine VC.sr ?_
 refine VO.mv rfl rfl rfl rfl ?_
 refine VO.val rfl rfl (OpV.neq rfl rfl rfl) ?_
 refine VO.nil ?_
 refine VC.cond rfl (fun h0b => ?_) (fun h0b => ?_)
 ·have h0 := h0b
  try simp only [qqT, qqF, qqN, qqM, qqL, qqE] at h0
  refine VC.sr ?_
  refine VO.mv rfl rfl rfl rfl ?_
  refine VO.ma rfl rfl rfl rfl ?_
  refine VO.ma rfl rfl rfl rfl ?_
  refine VO.ma rfl rfl rfl rfl ?_
  refine VO.nil ?_
  refine VC.ret ?_
  exact Exists.intro _ (And.intro (RetN.three Tryz.results80 (ResN.v rfl) (ResN.v rfl) (ResN.v rfl)) (by rw [if_neg h0, if_neg h0]))
 ·have h0 := h0b
  try simp only [qqT, qqF, qqN, qqM, qqL, qqE] at h0
  obtain ⟨z1, z2, z3⟩ := lineF_0 (ms := ms) (ns := ns) (plan := plan) (by omega)
  have hlen := machF_len z1
  have hcl := cycL_len ms ns plan
  refine VC.skip ?_
  refine VC.sr ?_
  refine VO.mv rfl rfl rfl rfl ?_
  refine VO.mv rfl rfl rfl rfl ?_
  refine VO.mv rfl rfl rfl rfl ?_
  refine VO.op rfl (OpE.call rfl hB rfl Tryz.call178 rfl (SpecN.spec (line_cycles z1 z2 z3)) ?_)
  rintro _ rfl
  refine VO.ma rfl rfl rfl rfl ?_
  refine VO.nil ?_
  refine VC.sr ?_
  refine VO.mv rfl rfl rfl rfl ?_
  refine VO.op rfl (OpE.call rfl hB rfl Tryz.call189 rfl (SpecN.spec (slices_Max_int (by omega) (by omega))) ?_)
  rintro _ rfl
  refine VO.ma rfl rfl rfl rfl ?_
  refine VO.nil ?_
  refine VC.sr ?_
  refine VO.mv rfl rfl rfl rfl ?_
  refine VO.mv rfl rfl rfl rfl ?_
  refine VO.op rfl (OpE.call rfl hB rfl Tryz.call192 rfl (SpecN.spec (slices_Index_int (by omega))) ?_)
  rintro _ rfl
  refine VO.mv rfl rfl rfl rfl ?_
  refine VO.ma rfl rfl rfl rfl ?_
  refine VO.ma rfl rfl rfl rfl ?_
  refine VO.ma rfl rfl rfl rfl ?_
  refine VO.nil ?_
  refine VC.ret ?_
  exact Exists.intro _ (And.intro (RetN.three Tryz.results80 (ResN.v rfl) (ResN.v rfl) (ResN.v rfl)) (by rw [if_pos (by omega), if_pos (by omega), show lineF ms ns plan = 0 by omega]; rfl))

end Go.Proofs.YtaaokimiadfidaaGreatDoor
namespace Go.Proofs.YtaaokimiadfidaaGreatDoor
open Go.RowKit
set_option linter.unusedVariables false
set_option linter.unusedSimpArgs false
section
variable {P : Program} {ops : Array Oper} {Q : Act → World → Prop} {md : Region.Mode} {E : Nat → World → World → Prop}
theorem wpAnyE_firstT {S : Nat → Bool} {F : World → World → Prop} (htr : ∀ x y z, F x y → F y z → F x z) (hrf : ∀ x, F x x) {i : Nat} (hEr : ∀ x, E i x x)
  (hEF : ∀ j oj, ops[j]? = some oj → S j = false → ∀ w w', E j w w' → F w w') (hcl : ∀ k, S k = true → k ≠ i → ∃ ok, ops[k]? = some ok ∧ ∃ e ∈ ok.after, Region.binds md e = true ∧ S e.on = true)
  {oi : Oper} {v : Value} (hi : ops[i]? = some oi) (hsel : ∀ (j : Nat) (o : Oper) cs b, ops[j]? = some o → o.op ≠ .select cs b) :
  ∀ (fuel : Nat) (listed : Array Bool) (a : Act) (w : World), (∀ k, S k = true → listed.getD k true = false) →
   (∀ j oj, ops[j]? = some oj → j ≠ i → listed.getD j true = false → (∀ e ∈ oj.after, Region.binds md e = true → e.on ≠ i) → oi.apart ops oj = true) →
   i ∈ Region.ready md ops listed → YieldsE P ops F oi v a w →
   wpAnyE P md ops Q E fuel (listed.setIfInBounds i true) (a.put oi.dst v) w → wpAnyE P md ops Q E (fuel + 1) listed a w := by
 intro fuel
 induction fuel with
 | zero =>
  intro listed a w _ _ hr hy H
  refine ⟨fun h => (by rw [h] at hr; cases hr), fun j hj => ?_⟩
  by_cases hji : j = i
  ·subst hji; exact YieldsIf.wpOp hi hy.iff (hrf w) ⟨hEr w, H⟩
  ·have := ready_mono hj hji
   rw [H.1] at this
   cases this
 | succ fuel ih =>
  intro listed a w hS hfree hr hy H
  refine ⟨fun h => (by rw [h] at hr; cases hr), fun j hj => ?_⟩
  by_cases hji : j = i
  ·subst hji; exact YieldsIf.wpOp hi hy.iff (hrf w) ⟨hEr w, H⟩
  ·have h1 := H.2 j (ready_mono hj hji)
   obtain ⟨hjun, oj, hoj, hall⟩ := mem_ready.1 hj
   have hnot : ∀ e ∈ oj.after, Region.binds md e = true → e.on ≠ i := fun e he hb heq => by
    have h1 := hall e he hb
    have h0 := (mem_ready.1 hr).1
    rw [heq] at h1
    rcases Nat.lt_or_ge i listed.size with h' | h'
    ·simp [h'] at h0 h1; rw [h0] at h1; cases h1
    ·simp [Array.getElem?_eq_none h'] at h1
   have hjS : S j = false := by
    cases hc : S j with
    | false => rfl
    | true =>
     obtain ⟨ok, k1, e, he, hb, k2⟩ := hcl j hc hji
     obtain rfl : oj = ok := Option.some.inj (hoj.symm.trans k1)
     have h1 := hall e he hb
     have h0 := hS e.on k2
     rcases Nat.lt_or_ge e.on listed.size with h' | h'
     ·simp [h'] at h0 h1; rw [h0] at h1; cases h1
     ·simp [Array.getElem?_eq_none h'] at h1
   have h2 := wpOp_putIf (S := F w) hoj (hfree j oj hoj hji hjun hnot) (fun cs b => hsel i oi cs b hi) (fun cs b => hsel j oj cs b hoj) (fun c a w h => h.elim) hy.iff h1
   have hfree' : ∀ k ok, ops[k]? = some ok → k ≠ i → (listed.setIfInBounds j true).getD k true = false →
     (∀ e ∈ ok.after, Region.binds md e = true → e.on ≠ i) → oi.apart ops ok = true := fun k ok hk hki hun hno => by
    refine hfree k ok hk hki ?_ hno
    by_cases hjk : j = k
    ·subst hjk; exact hjun
    ·rw [Go.getD_set_ne true hjk] at hun; exact hun
   have hS' : ∀ k, S k = true → (listed.setIfInBounds j true).getD k true = false := fun k hk => by
    have hjk : j ≠ k := fun e => by rw [e, hk] at hjS; cases hjS
    rw [Go.getD_set_ne true hjk]; exact hS k hk
   refine wpOp_mono (fun a' w' h3 => ⟨h3.2.1, ih (listed.setIfInBounds j true) a' w' hS' hfree' (ready_mono hr (Ne.symm hji)) ?_ ?_⟩) h2
   ·rcases h3.1 with ⟨k1, k2⟩ | k
    ·exact .inl ⟨k1, fun w'' hw'' => k2 w'' (htr _ _ _ (hEF j oj hoj hjS _ _ h3.2.1) hw'')⟩
    ·exact .inr k
   rw [Array.setIfInBounds_comm _ _ hji]
   exact h3.2.2
end
section
variable {P : Program} {B : Bs} {V : Nat → Nat → Prop} {ops : Array Oper} {s : St'} {Q : Exit → St' → Prop} {n : Nat} {L : Array Bool}
def WS (V : Nat → Nat → Prop) (S : List Nat) : Nat → Prop := fun b => ∃ j, S.contains j = false ∧ V j b
def hangB (ops : Array Oper) (S : List Nat) (i : Nat) : Bool := S.all fun k => k == i || match ops[k]? with
 | some o => o.after.any fun e => Region.binds .any e && S.contains e.on
 | none => false
theorem VA.takeT (S : List Nat) {i : Nat} {o : Oper} {x : AV} (hS : hangB ops S i = true) (hL : (S.all fun k => !(L.getD k true)) = true) (hi : ops[i]? = some o) (hs : Region.noSelect ops = true) (hf : Region.free .any ops L i = true) (hr : (Region.ready .any ops L).contains i = true) (hg : o.guard = none) (hd : okd B.nt o.dst = true)
  (hv : OpV P B (WS V S) s o x) (h : VA P B V ops Q n (L.setIfInBounds i true) (s.put o.dst x)) : VA P B V ops Q (n + 1) L s := fun a w hR => by
 obtain ⟨v, h1, h2⟩ := hv a w hR
 refine wpAnyE_firstT (S := fun k => S.contains k) (F := Ew B (WS V S)) Ew.tr Ew.rf (fun x => Ew.rf x) (fun j oj hj hjS w w' h => h.mono fun b _ hb => hb.imp id fun hv => ⟨j, hjS, hv⟩) (fun k hk hki => ?_) hi (Region.noSelect_spec hs) n L a w (fun k hk => ?_) (Region.free_spec hi hf) (by simpa using hr) (.inl ⟨by simp [Region.wanted, hg], h1⟩) (h _ _ (hR.put _ hd _ _ h2))
 ·have hk' : k ∈ S := by simpa using hk
  have := List.all_eq_true.1 hS k hk'
  simp only [Bool.or_eq_true, beq_iff_eq] at this
  have := this.resolve_left hki
  cases ho : ops[k]? with
  | none => rw [ho] at this; cases this
  | some ok =>
   rw [ho] at this
   obtain ⟨e, he, h3⟩ := Array.any_eq_true'.1 this
   simp only [Bool.and_eq_true] at h3
   exact ⟨ok, rfl, e, he, h3.1, h3.2⟩
 ·have hk' : k ∈ S := by simpa using hk
  have := List.all_eq_true.1 hL k hk'
  simpa using this
end
end Go.Proofs.YtaaokimiadfidaaGreatDoor
namespace Go.Proofs.YtaaokimiadfidaaGreatDoor
open Go.RowKit
set_option linter.unusedVariables false
set_option linter.unusedSimpArgs false
def balC (ms : List Mach) (ns : List NeedS) (u : Value) : Nat → AV := fun j => match j with
 | 0 => avL ms
 | 1 => avL ns
 | 2 => .v u
 | _ => .any
theorem bit_no (set q : Nat) : decide (((set / 2 ^ q &&& 1 : Nat) : Int) = 0) = !set.testBit q := by
 rw [Nat.testBit_eq_decide_div_mod_eq, Nat.and_one_is_mod]
 have h := Nat.mod_two_eq_zero_or_one (set / 2 ^ q)
 rcases h with h | h
 ·rw [h]; rfl
 ·rw [h]; rfl
section
variable {m : Mach} {ns : List NeedS} {b : Nat → Bool} {q : Nat}
theorem timB_no (h : b q = false) : timB m ns b (q + 1) = timB m ns b q := by rw [timB, if_neg (by rw [h]; simp)]
theorem timB_yes (h : b q = true) : timB m ns b (q + 1) = timB m ns b q + m.each * (ns.getD q default).count := by rw [timB, if_pos h]
theorem numB_no (h : b q = false) : numB b (q + 1) = numB b q := by rw [numB, if_neg (by rw [h]; simp)]; rfl
theorem numB_yes (h : b q = true) : numB b (q + 1) = numB b q + 1 := by rw [numB, if_pos h]
theorem okA_skip (h : b q = false) : okA m ns b q = true := by unfold okA; rw [h]; rfl
theorem okA_f1 (h : b q = true) (h2 : m.feeders < (numB b q : Int) + 1) : okA m ns b q = false := by
 unfold okA
 rw [h, numB_yes h, decide_eq_false (by omega)]; simp
theorem okA_f2 (h : b q = true) (h2 : hasK m (ns.getD q default).key = false) : okA m ns b q = false := by
 unfold okA
 rw [h, h2]; simp
theorem okA_yes (h : b q = true) (h2 : ¬ m.feeders < (numB b q : Int) + 1) (h3 : hasK m (ns.getD q default).key = true) : okA m ns b q = true := by
 unfold okA
 rw [h, h3, numB_yes h, decide_eq_true (by omega)]; rfl
theorem numB_le (b : Nat → Bool) : ∀ q, numB b q ≤ q
 | 0 => Nat.le_refl _
 | q + 1 => by have := numB_le b q; rw [numB]; split <;> omega
end
set_option maxRecDepth 100000 in
set_option maxHeartbeats 4000000 in
theorem bal_cycle {ms : List Mach} {ns : List NeedS} {u : Value} {k set : Nat} (hm : machF ms = 0) (hns : needsF ns 1 1000 = 0) (h12 : ns.length ≤ 12) (hk : k < ms.length) (hset : set < 9223372036854775808) :
  SpecN Tryz.prog 277 [.at_ 3 (balC ms ns u), avI (k : Int), avI (set : Int)] (fun y => y = avI (cycB (ms.getD k default) ns set.testBit)) := by
 have hM := MnOk.mk' hm hns
 have hlen := machF_len hm
 have hfe := (machF_each hm hk).1.2.2
 refine SpecN.of_VCN Tryz.func277 rfl Tryz.ntmps277 (Nle rfl) fun w A hB => ?_
 have hnew : True := trivial
 refine VC.sr ?_
 refine VO.ma rfl rfl rfl rfl ?_
 refine VO.nil ?_
 refine VC.sr ?_
 refine VO.mv rfl rfl rfl rfl ?_
 refine VO.val rfl rfl (OpV.nilCheck_at rfl rfl) ?_
 refine VO.val rfl rfl (OpV.fieldAddr_atO 0 rfl Tryz.underlying221 rfl rfl Tryz.sizeOf102 rfl rfl) ?_
 refine VO.val rfl rfl (OpV.load_at rfl hB OutW.no Tryz.isAgg102 rfl rfl) ?_
 refine VO.le _ (Le.recast (t := 15) (y := avL ms) rfl (fun w Z u h => h)) ?_
 refine VO.mv rfl rfl rfl rfl ?_
 refine VO.val rfl rfl (OpV.indexAddr_E rfl Tryz.underlying102 Tryz.sizeOf128 rfl rfl rfl (by omega)) ?_
 refine VO.val rfl rfl (OpV.loadK_at rfl hB OutW.no Tryz.isAgg128 Tryz.sizeOf128 rfl rfl) ?_
 refine VO.op rfl (OpE.alloc rfl hB rfl Tryz.zeroValue128 rfl ?_)
 intro g7
 refine VO.op rfl (OpE.store (i := 0) rfl hB rfl Tryz.sizeOf128 rfl rfl rfl rfl rfl rfl (Nle rfl) trivial ?_)
 refine VO.nil ?_
 refine VC.sr ?_
 refine VO.val rfl rfl (OpV.fieldAddrO 2 rfl Tryz.underlying128 rfl rfl Tryz.sizeOf3 rfl) ?_
 refine VO.val rfl rfl (OpV.load_own (i := 0) rfl hB Tryz.isAgg3 rfl rfl rfl (fun h => h)) ?_
 refine VO.ma rfl rfl rfl rfl ?_
 refine VO.ma rfl rfl rfl rfl ?_
 refine VO.nil ?_
 refine VC.seq ?_
 refine VC.sr ?_
 refine VO.mv rfl rfl rfl rfl ?_
 refine VO.val rfl rfl (OpV.nilCheck_at rfl rfl) ?_
 refine VO.val rfl rfl (OpV.fieldAddr_atO 1 rfl Tryz.underlying221 rfl rfl Tryz.sizeOf77 rfl rfl) ?_
 refine VO.val rfl rfl (OpV.load_at rfl hB OutW.no Tryz.isAgg77 rfl rfl) ?_
 refine VO.le _ (Le.recast (t := 24) (y := avL ns) rfl (fun w Z u h => h)) ?_
 refine VO.val rfl rfl (OpV.len_im rfl Tryz.underlying77 rfl) ?_
 refine VO.mv rfl rfl rfl rfl ?_
 refine VO.nil ?_
 refine VC.block ?_
 refine VC.loopK [(2, _), (7, _), (24, _), (25, _)] ⟨rfl, rfl, rfl, rfl, trivial⟩ ({q : Nat // q ≤ ns.length ∧ ∀ j, j < q → okA (ms.getD k default) ns set.testBit j = true}) (fun (iZ : {q : Nat // q ≤ ns.length ∧ ∀ j, j < q → okA (ms.getD k default) ns set.testBit j = true}) => match iZ with | ⟨q, hq, hn⟩ => [(8, avI (timB (ms.getD k default) ns set.testBit q)), (9, avI (numB set.testBit q : Int)), (26, avI (q : Int))]) (fun (iZ : {q : Nat // q ≤ ns.length ∧ ∀ j, j < q → okA (ms.getD k default) ns set.testBit j = true}) => match iZ with | ⟨q, hq, hn⟩ => [.box g7 ⟨tab 5 (Sxc.cell (ms.getD k default)), 128, 5⟩]) (fun (iZ : {q : Nat // q ≤ ns.length ∧ ∀ j, j < q → okA (ms.getD k default) ns set.testBit j = true}) => match iZ with | ⟨q, hq, hn⟩ => 0) (fun (iZ : {q : Nat // q ≤ ns.length ∧ ∀ j, j < q → okA (ms.getD k default) ns set.testBit j = true}) => match iZ with | ⟨q, hq, hn⟩ => ns.length - q) ⟨0, Nat.zero_le _, fun j hj => absurd hj (Nat.not_lt_zero j)⟩ (Le.mk hB [0] ⟨rfl, rfl, rfl, rfl, rfl, rfl, rfl, trivial⟩ rfl rfl (Nat.le_refl _)) ?_
 rintro ⟨q, hq, hn⟩
 show VC _ _ _ _ ⟨[(8, avI (timB (ms.getD k default) ns set.testBit q)), (9, avI (numB set.testBit q : Int)), (26, avI (q : Int))] ++ [(2, _), (7, _), (24, _), (25, _)], [.box g7 ⟨tab 5 (Sxc.cell (ms.getD k default)), 128, 5⟩], 0⟩
 have hti := timB_in hM k set.testBit q
 have hmu := mul_in2 (hM.each k) (hM.cnt q)
 have hnb := numB_le set.testBit q
 refine VC.sr ?_
 refine VO.val rfl rfl (OpV.lss rfl rfl rfl) ?_
 refine VO.nil ?_
 refine VC.seq ?_
 refine VC.cond rfl (fun aH1b => ?_) (fun aH1b => ?_)
 ·have aH1 := aH1b
  try simp only [qqT, qqF, qqN, qqM, qqL, qqE] at aH1
  refine VC.skip ?_
  refine VC.seq ?_
  refine VC.block ?_
  refine VC.sr ?_
  refine VO.mv rfl rfl rfl rfl ?_
  refine VO.val rfl rfl (OpV.indexAddr_E rfl Tryz.underlying77 Tryz.sizeOf96 rfl rfl rfl (by omega)) ?_
  refine VO.val rfl rfl (OpV.loadK_at rfl hB OutW.no Tryz.isAgg96 Tryz.sizeOf96 rfl rfl) ?_
  refine VO.op rfl (OpE.alloc rfl hB rfl Tryz.zeroValue96 rfl ?_)
  intro g11
  refine VO.ma rfl rfl rfl rfl ?_
  refine VO.op rfl (OpE.store (i := 1) rfl hB rfl Tryz.sizeOf96 rfl rfl rfl rfl rfl rfl (Nle rfl) trivial ?_)
  refine VO.nil ?_
  refine VC.seq ?_
  refine VC.sr ?_
  refine VO.mv rfl rfl rfl rfl ?_
  refine VO.mv rfl rfl rfl rfl ?_
  refine VO.val rfl rfl (OpV.bshr rfl rfl rfl (by omega)) ?_
  refine VO.val rfl rfl (OpV.band (b := 1) rfl rfl rfl (Nat.lt_of_le_of_lt (Nat.div_le_self _ _) hset) (by decide)) ?_
  refine VO.val rfl rfl (OpV.eql rfl rfl rfl) ?_
  refine VO.le _ (Le.recast (t := 35) (y := avB (!(set.testBit q))) rfl (fun w Z u h => by rw [← bit_no]; exact h)) ?_
  refine VO.nil ?_
  refine VC.cond rfl (fun h1b => ?_) (fun h1b => ?_)
  ·have h1 := h1b
   try simp only [qqT, qqF, qqN, qqM, qqL, qqE] at h1
   refine VC.exit ?_
   refine VC.region ?_
   refine VO.val rfl rfl (OpV.add rfl rfl rfl (by unfold fits; omega)) ?_
   refine VO.mv rfl rfl rfl rfl ?_
   refine VO.nil ?_
   exact Exists.intro (⟨q + 1, by omega, lt_succ_cases hn ((okA_skip h1))⟩) (And.intro (Le.mk hB [0] ⟨(by dsimp only; first | (rw [timB_no h1]; rfl) | (rw [timB_yes h1]; rfl)), (by dsimp only; first | (rw [numB_no h1]; rfl) | (rw [numB_yes h1]; rfl)), rfl, rfl, rfl, rfl, rfl, trivial⟩ rfl rfl (Nat.le_refl _)) (by first | omega | (show _ < _; omega) | (simp only []; omega)))
  ·have h1 := h1b
   try simp only [qqT, qqF, qqN, qqM, qqL, qqE] at h1
   refine VC.skip ?_
   refine VC.seq ?_
   refine VC.sr ?_
   refine VO.mv rfl rfl rfl rfl ?_
   refine VO.val rfl rfl (OpV.add rfl rfl rfl (by unfold fits; omega)) ?_
   refine VO.ma rfl rfl rfl rfl ?_
   refine VO.nil ?_
   refine VC.sr ?_
   refine VO.mv rfl rfl rfl rfl ?_
   refine VO.val rfl rfl (OpV.fieldAddrO 3 rfl Tryz.underlying128 rfl rfl Tryz.sizeOf3 rfl) ?_
   refine VO.val rfl rfl (OpV.load_own (i := 0) rfl hB Tryz.isAgg3 rfl rfl rfl (fun h => h)) ?_
   refine VO.val rfl rfl (OpV.gtr rfl rfl rfl) ?_
   refine VO.mv rfl rfl rfl rfl ?_
   refine VO.opG rfl rfl rfl rfl (fun aK2b => ?_) (fun aK2b => ?_)
   ·replace aK2b : _ = false := aK2b
    have aK2 := aK2b
    try simp only [qqT, qqF, qqN, qqM, qqL, qqE] at aK2
    refine OpE.val (W := NoB) (OpV.loadK_own (i := 0) rfl hB Tryz.isAgg128 Tryz.sizeOf128 rfl rfl rfl (fun h => h)) rfl ?_
    refine VO.opY rfl rfl rfl rfl aK2b ?_
    refine OpE.val (W := NoB) (OpV.fieldAddrO 0 rfl Tryz.underlying96 rfl rfl Tryz.sizeOf9 rfl) rfl ?_
    refine VO.opY rfl rfl rfl rfl aK2b ?_
    refine OpE.val (W := NoB) (OpV.load_own (i := 1) rfl hB Tryz.isAgg9 rfl rfl rfl (fun h => h)) rfl ?_
    refine VO.opY rfl rfl rfl rfl aK2b ?_
    refine OpE.call rfl hB rfl Tryz.call179 rfl (SpecN.spec (line_can (by have := canF_keys (machF_each hm hk).2; omega) (canF_sort (machF_each hm hk).2))) ?_
    rintro _ rfl
    refine VO.opY rfl rfl rfl rfl aK2b ?_
    refine OpE.val (W := NoB) (OpV.not rfl rfl) rfl ?_
    refine VO.val rfl rfl (OpV.pickF rfl rfl rfl rfl aK2b) ?_
    refine VO.nil ?_
    refine VC.cond rfl (fun h2b => ?_) (fun h2b => ?_)
    ·have h2 := h2b
     try simp only [qqT, qqF, qqN, qqM, qqL, qqE] at h2
     refine VC.sr ?_
     refine VO.ma rfl rfl rfl rfl ?_
     refine VO.nil ?_
     refine VC.ret ?_
     exact Exists.intro _ (And.intro (RetN.one Tryz.results277 (ResN.v rfl)) (by first | rw [okB_no (i := q) (by omega) (okA_f1 h1 (by omega))] | rw [okB_no (i := q) (by omega) (okA_f2 h1 (by simpa using h2))]))
    ·have h2 := h2b
     try simp only [qqT, qqF, qqN, qqM, qqL, qqE] at h2
     refine VC.skip ?_
     refine VC.region ?_
     refine VO.mv rfl rfl rfl rfl ?_
     refine VO.val rfl rfl (OpV.fieldAddrO 1 rfl Tryz.underlying128 rfl rfl Tryz.sizeOf3 rfl) ?_
     refine VO.val rfl rfl (OpV.load_own (i := 0) rfl hB Tryz.isAgg3 rfl rfl rfl (fun h => h)) ?_
     refine VO.val rfl rfl (OpV.fieldAddrO 1 rfl Tryz.underlying96 rfl rfl Tryz.sizeOf3 rfl) ?_
     refine VO.val rfl rfl (OpV.load_own (i := 1) rfl hB Tryz.isAgg3 rfl rfl rfl (fun h => h)) ?_
     refine VO.val rfl rfl (OpV.mul rfl rfl rfl (by unfold fits; omega)) ?_
     refine VO.val rfl rfl (OpV.add rfl rfl rfl (by unfold fits; omega)) ?_
     refine VO.ma rfl rfl rfl rfl ?_
     refine VO.nil ?_
     refine VC.region ?_
     refine VO.val rfl rfl (OpV.add rfl rfl rfl (by unfold fits; omega)) ?_
     refine VO.mv rfl rfl rfl rfl ?_
     refine VO.nil ?_
     exact Exists.intro (⟨q + 1, by omega, lt_succ_cases hn ((okA_yes h1 (by omega) (by simpa using h2)))⟩) (And.intro (Le.mk hB [0] ⟨(by dsimp only; first | (rw [timB_no h1]; rfl) | (rw [timB_yes h1]; rfl)), (by dsimp only; first | (rw [numB_no h1]; rfl) | (rw [numB_yes h1]; rfl)), rfl, rfl, rfl, rfl, rfl, trivial⟩ rfl rfl (Nat.le_refl _)) (by first | omega | (show _ < _; omega) | (simp only []; omega)))
   ·replace aK2b : _ = true := aK2b
    have aK2 := aK2b
    try simp only [qqT, qqF, qqN, qqM, qqL, qqE] at aK2
    refine VO.opX rfl rfl rfl rfl aK2b ?_
    refine VO.opX rfl rfl rfl rfl aK2b ?_
    refine VO.opX rfl rfl rfl rfl aK2b ?_
    refine VO.opX rfl rfl rfl rfl aK2b ?_
    refine VO.val rfl rfl (OpV.pickT rfl rfl rfl rfl aK2b) ?_
    refine VO.nil ?_
    refine VC.condT rfl rfl ?_
    refine VC.sr ?_
    refine VO.ma rfl rfl rfl rfl ?_
    refine VO.nil ?_
    refine VC.ret ?_
    exact Exists.intro _ (And.intro (RetN.one Tryz.results277 (ResN.v rfl)) (by first | rw [okB_no (i := q) (by omega) (okA_f1 h1 (by omega))] | rw [okB_no (i := q) (by omega) (okA_f2 h1 (by simpa using h2))]))
 ·have aH1 := aH1b
  try simp only [qqT, qqF, qqN, qqM, qqL, qqE] at aH1
  refine VC.exit ?_
  refine VC.sr ?_
  refine VO.mv rfl rfl rfl rfl ?_
  refine VO.ma rfl rfl rfl rfl ?_
  refine VO.nil ?_
  refine VC.ret ?_
  exact Exists.intro _ (And.intro (RetN.one Tryz.results277 (ResN.v rfl)) (by rw [okB_all (fun i hi => hn i (by omega)), show q = ns.length by omega]))
theorem or_lt12 {a b : Nat} (ha : a < 4096) (hb : b < 4096) : a ||| b < 4096 := Nat.or_lt_two_pow (n := 12) ha hb
abbrev fixB (gf n : Nat) (fx : Nat → Nat) : Ent := .box gf ⟨intsL (tabI n fun k => (fx k : Int)), 3, n⟩
theorem belS_zero' {ms : List Mach} {ns : List NeedS} {fx : Nat → Nat} {r : Nat} {bl : List Int} (h : bl.length = r + 1) (hn : ∀ j, j < r + 1 → bl.getD j 0 = neverC) : SetI r (belS ms ns fx 0) (bl.set 0 0) := ⟨by rw [List.length_set]; exact h, fun s hs => by
 have := hs.le
 rw [getDs (by omega), belS]
 by_cases e : s = 0
 ·rw [if_pos e, if_pos e]
 ·rw [if_neg e, if_neg e]; exact hn s (by omega)⟩
theorem intsL_getV {xs : List Int} {j : Nat} {v : Int} (h : j < xs.length) (hv : xs.getD j 0 = v) : (intsL xs)[j]? = some (avI v) := by rw [intsL_get h, hv]
theorem setInt_get {l : List Int} {j : Nat} {v : Int} (h : j < l.length) : (intsL (l.set j v))[j]? = some (avI v) := by rw [intsL_get (by rw [List.length_set]; exact h), getDs h, if_pos rfl]
theorem setInt_set (l : List Int) (j : Nat) (v x : Int) : (intsL (l.set j v)).set j (avI x) = intsL (l.set j x) := by rw [intsL_set, List.set_set]
theorem rep_len (n : Nat) (x : Int) : (List.replicate n x).length = n := by simp
set_option maxRecDepth 100000 in
set_option maxHeartbeats 16000000 in
theorem bal_longest {ms : List Mach} {ns : List NeedS} {gf : Nat} {fx : Nat → Nat} {rest : Nat} (hm : machF ms = 0) (hn : needsF ns 1 1000 = 0) (h12 : ns.length ≤ 12) (hr : rest < 4096) (hfx : ∀ k, fx k < 4096) :
  SpecH Tryz.prog 173 [.at_ 3 (balC ms ns (.slice (some ⟨gf, 0, none⟩) ms.length ms.length)), avI (rest : Int)] [fixB gf ms.length fx] (fun y hp' => y = avI (belS ms ns fx ms.length rest) ∧ hp' = [fixB gf ms.length fx]) := by
 have hMn := MnOk.mk' hm hn
 have hlen := machF_len hm
 refine SpecH.of_VC Tryz.func173 rfl Tryz.ntmps173 (Nle rfl) fun w A hB => ?_
 have hnew : True := trivial
 refine VC.sr ?_
 refine VO.ma rfl rfl rfl rfl ?_
 refine VO.nil ?_
 refine VC.sr ?_
 refine VO.mv rfl rfl rfl rfl ?_
 refine VO.val rfl rfl (OpV.add rfl rfl rfl (by unfold fits; omega)) ?_
 refine VO.op rfl (OpE.make rfl hB rfl Tryz.underlying22 (infoOf Tryz.t3 1 (by kernel_rfl) rfl rfl) (by decide) rfl rfl (n := rest + 1) (by omega) (by omega) (by omega) (made_ints _) ?_)
 intro g15
 rw [intsL_len, List.length_replicate]
 refine VO.ma rfl rfl rfl rfl ?_
 refine VO.nil ?_
 refine VC.seq ?_
 refine VC.sr ?_
 refine VO.mv rfl rfl rfl rfl ?_
 refine VO.val rfl rfl (OpV.len_v rfl Tryz.underlying22 rfl) ?_
 refine VO.mv rfl rfl rfl rfl ?_
 refine VO.nil ?_
 refine VC.block ?_
 refine VC.loopK [(0, _), (1, _), (5, _), (17, _)] ⟨rfl, rfl, rfl, rfl, trivial⟩ ({z : List Int × Nat // z.2 ≤ rest + 1 ∧ z.1.length = rest + 1 ∧ ∀ j, j < z.2 → z.1.getD j 0 = neverC}) (fun (iZ : {z : List Int × Nat // z.2 ≤ rest + 1 ∧ z.1.length = rest + 1 ∧ ∀ j, j < z.2 → z.1.getD j 0 = neverC}) => match iZ with | ⟨⟨bl, q⟩, hq, hbl, hbn⟩ => [(18, avI (q : Int))]) (fun (iZ : {z : List Int × Nat // z.2 ≤ rest + 1 ∧ z.1.length = rest + 1 ∧ ∀ j, j < z.2 → z.1.getD j 0 = neverC}) => match iZ with | ⟨⟨bl, q⟩, hq, hbl, hbn⟩ => [fixB gf ms.length fx, .box g15 ⟨intsL bl, 3, rest + 1⟩]) (fun (iZ : {z : List Int × Nat // z.2 ≤ rest + 1 ∧ z.1.length = rest + 1 ∧ ∀ j, j < z.2 → z.1.getD j 0 = neverC}) => match iZ with | ⟨⟨bl, q⟩, hq, hbl, hbn⟩ => 0) (fun (iZ : {z : List Int × Nat // z.2 ≤ rest + 1 ∧ z.1.length = rest + 1 ∧ ∀ j, j < z.2 → z.1.getD j 0 = neverC}) => match iZ with | ⟨⟨bl, q⟩, hq, hbl, hbn⟩ => rest + 1 - q) ⟨(List.replicate (rest + 1) 0, 0), Nat.zero_le _, rep_len _ _, fun j hj => absurd hj (Nat.not_lt_zero j)⟩ (Le.mk hB [0, 1] ⟨rfl, rfl, rfl, rfl, rfl, trivial⟩ rfl rfl (Nat.le_refl _)) ?_
 rintro ⟨⟨bl, q⟩, hq, hbl, hbn⟩
 show VC _ _ _ _ ⟨[(18, avI (q : Int))] ++ [(0, _), (1, _), (5, _), (17, _)], [fixB gf ms.length fx, .box g15 ⟨intsL bl, 3, rest + 1⟩], 0⟩
 simp only at hq hbl hbn
 refine VC.sr ?_
 refine VO.val rfl rfl (OpV.lss rfl rfl rfl) ?_
 refine VO.nil ?_
 refine VC.seq ?_
 refine VC.cond rfl (fun aH1b => ?_) (fun aH1b => ?_)
 ·have aH1 := aH1b
  try simp only [qqT, qqF, qqN, qqM, qqL, qqE] at aH1
  refine VC.skip ?_
  refine VC.seq ?_
  refine VC.block ?_
  refine VC.sr ?_
  refine VO.mv rfl rfl rfl rfl ?_
  refine VO.ma rfl rfl rfl rfl ?_
  refine VO.nil ?_
  refine VC.region ?_
  refine VO.mv rfl rfl rfl rfl ?_
  refine VO.mv rfl rfl rfl rfl ?_
  refine VO.val rfl rfl (OpV.indexAddr_o rfl Tryz.underlying22 Tryz.sizeOf3 rfl rfl rfl (by omega)) ?_
  refine VO.op rfl (OpE.store1 (i := 1) rfl hB rfl Tryz.sizeOf3 rfl rfl rfl rfl rfl rfl (by rw [intsL_len]; omega) (intsL_set _ _ _) trivial ?_)
  refine VO.nil ?_
  refine VC.region ?_
  refine VO.val rfl rfl (OpV.add rfl rfl rfl (by unfold fits; omega)) ?_
  refine VO.mv rfl rfl rfl rfl ?_
  refine VO.nil ?_
  exact Exists.intro (⟨(bl.set q neverC, q + 1), by show q + 1 ≤ _; omega, by show (bl.set q neverC).length = _; rw [List.length_set]; exact hbl, fun j hj => by show (bl.set q neverC).getD j 0 = _; rw [getDs (by omega)]; by_cases e : j = q; (rw [if_pos e]); (rw [if_neg e]; exact hbn j (by have : j < q + 1 := hj; omega))⟩) (And.intro (Le.mk hB [0, 1] ⟨rfl, rfl, rfl, rfl, rfl, trivial⟩ rfl rfl (Nat.le_refl _)) (by first | omega | (show _ < _; omega) | (simp only []; omega)))
 ·have aH1 := aH1b
  try simp only [qqT, qqF, qqN, qqM, qqL, qqE] at aH1
  refine VC.exit ?_
  refine VC.sr ?_
  refine VO.mv rfl rfl rfl rfl ?_
  refine VO.val rfl rfl (OpV.indexAddr_o rfl Tryz.underlying22 Tryz.sizeOf3 rfl rfl (Int.toNat_of_nonneg (by omega)).symm (by omega)) ?_
  refine VO.op rfl (OpE.store1 (i := 1) rfl hB rfl Tryz.sizeOf3 rfl rfl rfl rfl rfl rfl (by rw [intsL_len]; omega) (intsL_set _ _ _) trivial ?_)
  refine VO.nil ?_
  refine VC.seq ?_
  refine VC.sr ?_
  refine VO.mv rfl rfl rfl rfl ?_
  refine VO.val rfl rfl (OpV.nilCheck_at rfl rfl) ?_
  refine VO.val rfl rfl (OpV.fieldAddr_atO 0 rfl Tryz.underlying221 rfl rfl Tryz.sizeOf102 rfl rfl) ?_
  refine VO.val rfl rfl (OpV.load_at rfl hB OutW.no Tryz.isAgg102 rfl rfl) ?_
  refine VO.val rfl rfl (OpV.len_im rfl Tryz.underlying102 rfl) ?_
  refine VO.mv rfl rfl rfl rfl ?_
  refine VO.nil ?_
  refine VC.block ?_
  refine VC.loopK [(0, _), (1, _), (31, _)] ⟨rfl, rfl, rfl, trivial⟩ ({z : Nat × List Int × Nat // z.2.2 ≤ ms.length ∧ SetI rest (belS ms ns fx z.2.2) z.2.1}) (fun (iZ : {z : Nat × List Int × Nat // z.2.2 ≤ ms.length ∧ SetI rest (belS ms ns fx z.2.2) z.2.1}) => match iZ with | ⟨⟨gb, bl, k⟩, hk, hS⟩ => [(5, .v (.slice (some ⟨gb, 0, none⟩) (rest + 1) (rest + 1))), (32, avI (k : Int))]) (fun (iZ : {z : Nat × List Int × Nat // z.2.2 ≤ ms.length ∧ SetI rest (belS ms ns fx z.2.2) z.2.1}) => match iZ with | ⟨⟨gb, bl, k⟩, hk, hS⟩ => [fixB gf ms.length fx, .box gb ⟨intsL bl, 3, rest + 1⟩]) (fun (iZ : {z : Nat × List Int × Nat // z.2.2 ≤ ms.length ∧ SetI rest (belS ms ns fx z.2.2) z.2.1}) => match iZ with | ⟨⟨gb, bl, k⟩, hk, hS⟩ => 0) (fun (iZ : {z : Nat × List Int × Nat // z.2.2 ≤ ms.length ∧ SetI rest (belS ms ns fx z.2.2) z.2.1}) => match iZ with | ⟨⟨gb, bl, k⟩, hk, hS⟩ => ms.length - k) ⟨(g15, bl.set 0 0, 0), Nat.zero_le _, belS_zero' hbl (fun j hj => hbn j (by omega))⟩ (Le.mk hB [0, 1] ⟨rfl, rfl, rfl, rfl, rfl, trivial⟩ rfl rfl (Nat.le_refl _)) ?_
  rintro ⟨⟨gb, bl, k⟩, hk, hS⟩
  show VC _ _ _ _ ⟨[(5, .v (.slice (some ⟨gb, 0, none⟩) (rest + 1) (rest + 1))), (32, avI (k : Int))] ++ [(0, _), (1, _), (31, _)], [fixB gf ms.length fx, .box gb ⟨intsL bl, 3, rest + 1⟩], 0⟩
  simp only at hk hS
  have hbl := hS.len
  refine VC.sr ?_
  refine VO.val rfl rfl (OpV.lss rfl rfl rfl) ?_
  refine VO.nil ?_
  refine VC.seq ?_
  refine VC.cond rfl (fun aH2b => ?_) (fun aH2b => ?_)
  ·have aH2 := aH2b
   try simp only [qqT, qqF, qqN, qqM, qqL, qqE] at aH2
   refine VC.skip ?_
   refine VC.seq ?_
   refine VC.block ?_
   refine VC.sr ?_
   refine VO.mv rfl rfl rfl rfl ?_
   refine VO.ma rfl rfl rfl rfl ?_
   refine VO.nil ?_
   refine VC.sr ?_
   refine VO.mv rfl rfl rfl rfl ?_
   refine VO.val rfl rfl (OpV.add rfl rfl rfl (by unfold fits; omega)) ?_
   refine VO.op rfl (OpE.make rfl hB rfl Tryz.underlying22 (infoOf Tryz.t3 1 (by kernel_rfl) rfl rfl) (by decide) rfl rfl (n := rest + 1) (by omega) (by omega) (by omega) (made_ints _) ?_)
   intro g37
   rw [intsL_len, List.length_replicate]
   refine VO.ma rfl rfl rfl rfl ?_
   refine VO.nil ?_
   refine VC.seq ?_
   refine VC.sr ?_
   refine VO.mv rfl rfl rfl rfl ?_
   refine VO.ma rfl rfl rfl rfl ?_
   refine VO.nil ?_
   refine VC.block ?_
   refine VC.loopK [(0, _), (1, _), (5, _), (7, _), (8, _), (31, _), (32, _)] ⟨rfl, rfl, rfl, rfl, rfl, rfl, rfl, trivial⟩ ({z : List Int × Nat // SetG rest z.2 (alnS ms ns fx k) z.1}) (fun (iZ : {z : List Int × Nat // SetG rest z.2 (alnS ms ns fx k) z.1}) => match iZ with | ⟨⟨al, cur⟩, hG⟩ => [(9, avI (cur : Int))]) (fun (iZ : {z : List Int × Nat // SetG rest z.2 (alnS ms ns fx k) z.1}) => match iZ with | ⟨⟨al, cur⟩, hG⟩ => [fixB gf ms.length fx, .box gb ⟨intsL bl, 3, rest + 1⟩, .box g37 ⟨intsL al, 3, rest + 1⟩]) (fun (iZ : {z : List Int × Nat // SetG rest z.2 (alnS ms ns fx k) z.1}) => match iZ with | ⟨⟨al, cur⟩, hG⟩ => 0) (fun (iZ : {z : List Int × Nat // SetG rest z.2 (alnS ms ns fx k) z.1}) => match iZ with | ⟨⟨al, cur⟩, hG⟩ => cur) ⟨(List.replicate (rest + 1) 0, rest), SetG.start (rep_len _ _)⟩ (Le.mk hB [0, 1, 2] ⟨rfl, rfl, rfl, rfl, rfl, rfl, rfl, rfl, trivial⟩ rfl rfl (Nat.le_refl _)) ?_
   rintro ⟨⟨al, cur⟩, hG⟩
   show VC _ _ _ _ ⟨[(9, avI (cur : Int))] ++ [(0, _), (1, _), (5, _), (7, _), (8, _), (31, _), (32, _)], [fixB gf ms.length fx, .box gb ⟨intsL bl, 3, rest + 1⟩, .box g37 ⟨intsL al, 3, rest + 1⟩], 0⟩
   simp only at hG
   have hcl := hG.lt
   have hcl2 := hG.len
   refine VC.seq ?_
   refine VC.block ?_
   refine VC.sr ?_
   refine VO.mv rfl rfl rfl rfl ?_
   refine VO.mv rfl rfl rfl rfl ?_
   refine VO.mv rfl rfl rfl rfl ?_
   refine VO.mv rfl rfl rfl rfl ?_
   refine VO.mv rfl rfl rfl rfl ?_
   refine VO.val rfl rfl (OpV.nilCheck_at rfl rfl) ?_
   refine VO.val rfl rfl (OpV.fieldAddr_atO 2 rfl Tryz.underlying221 rfl rfl Tryz.sizeOf22 rfl rfl) ?_
   refine VO.val rfl rfl (OpV.load_at rfl hB OutW.no Tryz.isAgg22 rfl rfl) ?_
   refine VO.mv rfl rfl rfl rfl ?_
   refine VO.val rfl rfl (OpV.indexAddr_o rfl Tryz.underlying22 Tryz.sizeOf3 rfl rfl rfl (by omega)) ?_
   refine VO.val rfl rfl (OpV.load_own (i := 0) rfl hB Tryz.isAgg3 rfl rfl (intsT_get (by omega)) (fun h => h)) ?_
   refine VO.mv rfl rfl rfl rfl ?_
   refine VO.val rfl rfl (OpV.bor rfl rfl rfl (Nat.lt_trans (hfx k) (by decide)) (by omega)) ?_
   refine VO.op rfl (OpE.call rfl hB rfl Tryz.call277 rfl (SpecN.spec (bal_cycle hm hn h12 (by omega) (by have := or_lt12 (hfx k) (show cur < 4096 by omega); omega))) ?_)
   rintro _ rfl
   refine VO.val rfl rfl (OpV.indexAddr_o rfl Tryz.underlying22 Tryz.sizeOf3 rfl rfl rfl (by omega)) ?_
   refine VO.op rfl (OpE.store1 (i := 2) rfl hB rfl Tryz.sizeOf3 rfl rfl rfl rfl rfl rfl (by rw [intsL_len]; omega) (intsL_set _ _ _) trivial ?_)
   refine VO.nil ?_
   refine VC.sr ?_
   refine VO.mv rfl rfl rfl rfl ?_
   refine VO.val rfl rfl (OpV.eql rfl rfl rfl) ?_
   refine VO.nil ?_
   refine VC.cond rfl (fun h2b => ?_) (fun h2b => ?_)
   ·have h2 := h2b
    try simp only [qqT, qqF, qqN, qqM, qqL, qqE] at h2
    obtain ⟨al2, hA2, hA⟩ : ∃ al2, al.set cur (alnS ms ns fx k cur) = al2 ∧ SetI rest (alnS ms ns fx k) al2 := ⟨_, rfl, hG.last (by omega) rfl⟩
    refine VC.le _ (Le.pickH (hp := [fixB gf ms.length fx, .box gb ⟨intsL bl, 3, rest + 1⟩, .box g37 ⟨intsL al2, 3, rest + 1⟩]) [0, 1, 2] rfl (by rw [← hA2]; rfl)) ?_
    have hal := hA.len
    refine VC.exit ?_
    refine VC.sr ?_
    refine VO.mv rfl rfl rfl rfl ?_
    refine VO.val rfl rfl (OpV.add rfl rfl rfl (by unfold fits; omega)) ?_
    refine VO.op rfl (OpE.make rfl hB rfl Tryz.underlying22 (infoOf Tryz.t3 1 (by kernel_rfl) rfl rfl) (by decide) rfl rfl (n := rest + 1) (by omega) (by omega) (by omega) (made_ints _) ?_)
    intro g62
    rw [intsL_len, List.length_replicate]
    refine VO.ma rfl rfl rfl rfl ?_
    refine VO.nil ?_
    refine VC.seq ?_
    refine VC.sr ?_
    refine VO.mv rfl rfl rfl rfl ?_
    refine VO.ma rfl rfl rfl rfl ?_
    refine VO.nil ?_
    refine VC.block ?_
    refine VC.loopK [(0, _), (1, _), (5, _), (8, _), (10, _), (31, _), (32, _)] ⟨rfl, rfl, rfl, rfl, rfl, rfl, rfl, trivial⟩ ({z : List Int × Nat // SetG rest z.2 (belS ms ns fx (k + 1)) z.1}) (fun (iZ : {z : List Int × Nat // SetG rest z.2 (belS ms ns fx (k + 1)) z.1}) => match iZ with | ⟨⟨af, s⟩, hF⟩ => [(11, avI (s : Int))]) (fun (iZ : {z : List Int × Nat // SetG rest z.2 (belS ms ns fx (k + 1)) z.1}) => match iZ with | ⟨⟨af, s⟩, hF⟩ => [fixB gf ms.length fx, .box gb ⟨intsL bl, 3, rest + 1⟩, .box g37 ⟨intsL al2, 3, rest + 1⟩, .box g62 ⟨intsL af, 3, rest + 1⟩]) (fun (iZ : {z : List Int × Nat // SetG rest z.2 (belS ms ns fx (k + 1)) z.1}) => match iZ with | ⟨⟨af, s⟩, hF⟩ => 0) (fun (iZ : {z : List Int × Nat // SetG rest z.2 (belS ms ns fx (k + 1)) z.1}) => match iZ with | ⟨⟨af, s⟩, hF⟩ => s) ⟨(List.replicate (rest + 1) 0, rest), SetG.start (rep_len _ _)⟩ (Le.mk hB [0, 1, 2, 3] ⟨rfl, rfl, rfl, rfl, rfl, rfl, rfl, rfl, trivial⟩ rfl rfl (Nat.le_refl _)) ?_
    rintro ⟨⟨af, s⟩, hF⟩
    show VC _ _ _ _ ⟨[(11, avI (s : Int))] ++ [(0, _), (1, _), (5, _), (8, _), (10, _), (31, _), (32, _)], [fixB gf ms.length fx, .box gb ⟨intsL bl, 3, rest + 1⟩, .box g37 ⟨intsL al2, 3, rest + 1⟩, .box g62 ⟨intsL af, 3, rest + 1⟩], 0⟩
    simp only at hF
    have hsl := hF.lt
    have hsl2 := hF.len
    refine VC.seq ?_
    refine VC.block ?_
    refine VC.sr ?_
    refine VO.mv rfl rfl rfl rfl ?_
    refine VO.mv rfl rfl rfl rfl ?_
    refine VO.val rfl rfl (OpV.indexAddr_o rfl Tryz.underlying22 Tryz.sizeOf3 rfl rfl rfl (by omega)) ?_
    refine VO.op rfl (OpE.store1 (i := 3) rfl hB rfl Tryz.sizeOf3 rfl rfl rfl rfl rfl rfl (by rw [intsL_len]; omega) (intsL_set _ _ _) trivial ?_)
    refine VO.nil ?_
    refine VC.seq ?_
    refine VC.sr ?_
    refine VO.mv rfl rfl rfl rfl ?_
    refine VO.ma rfl rfl rfl rfl ?_
    refine VO.nil ?_
    refine VC.block ?_
    refine VC.loopK [(0, _), (1, _), (5, _), (8, _), (10, _), (11, _), (31, _), (32, _)] ⟨rfl, rfl, rfl, rfl, rfl, rfl, rfl, rfl, trivial⟩ ({z : Int × Nat // MinI (mxBA ms ns fx k s) s z.2 z.1}) (fun (iZ : {z : Int × Nat // MinI (mxBA ms ns fx k s) s z.2 z.1}) => match iZ with | ⟨⟨v, c⟩, hV⟩ => [(12, avI (c : Int))]) (fun (iZ : {z : Int × Nat // MinI (mxBA ms ns fx k s) s z.2 z.1}) => match iZ with | ⟨⟨v, c⟩, hV⟩ => [fixB gf ms.length fx, .box gb ⟨intsL bl, 3, rest + 1⟩, .box g37 ⟨intsL al2, 3, rest + 1⟩, .box g62 ⟨intsL (af.set s v), 3, rest + 1⟩]) (fun (iZ : {z : Int × Nat // MinI (mxBA ms ns fx k s) s z.2 z.1}) => match iZ with | ⟨⟨v, c⟩, hV⟩ => 0) (fun (iZ : {z : Int × Nat // MinI (mxBA ms ns fx k s) s z.2 z.1}) => match iZ with | ⟨⟨v, c⟩, hV⟩ => c) ⟨(neverC, s), MinI.start _ _⟩ (Le.mk hB [0, 1, 2, 3] ⟨rfl, rfl, rfl, rfl, rfl, rfl, rfl, rfl, rfl, trivial⟩ rfl rfl (Nat.le_refl _)) ?_
    rintro ⟨⟨v, c⟩, hV⟩
    show VC _ _ _ _ ⟨[(12, avI (c : Int))] ++ [(0, _), (1, _), (5, _), (8, _), (10, _), (11, _), (31, _), (32, _)], [fixB gf ms.length fx, .box gb ⟨intsL bl, 3, rest + 1⟩, .box g37 ⟨intsL al2, 3, rest + 1⟩, .box g62 ⟨intsL (af.set s v), 3, rest + 1⟩], 0⟩
    simp only at hV
    have hvs := hV.sub.le
    have hds : ndiff s c ≤ s := (SubN.diff s c).le
    have hb1 := hS.at_ (ndiff s c) (SubN.of_sub hF.sub)
    have hb2 := hA.at_ c (hV.sub.trans hF.sub)
    refine VC.seq ?_
    refine VC.block ?_
    refine VC.seq ?_
    refine VC.draw (fun j b => j = 19 ∧ b = g62) hB (by kernel_rfl) ?_
    refine VA.take (i := 0) rfl (by kernel_rfl) (by kernel_rfl) (by kernel_rfl) rfl rfl (OpV.move (.inl rfl) rfl) ?_
    refine VA.take (i := 1) rfl (by kernel_rfl) (by kernel_rfl) (by kernel_rfl) rfl rfl (OpV.move (.inl rfl) rfl) ?_
    refine VA.take (i := 2) rfl (by kernel_rfl) (by kernel_rfl) (by kernel_rfl) rfl rfl (OpV.move (.inl rfl) rfl) ?_
    refine VA.take (i := 3) rfl (by kernel_rfl) (by kernel_rfl) (by kernel_rfl) rfl rfl (OpV.move (.inl rfl) rfl) ?_
    refine VA.take (i := 4) rfl (by kernel_rfl) (by kernel_rfl) (by kernel_rfl) rfl rfl (OpV.indexAddr_o rfl Tryz.underlying22 Tryz.sizeOf3 rfl rfl rfl (by omega)) ?_
    refine VA.takeT [5, 17, 19] (i := 5) (by kernel_rfl) (by kernel_rfl) rfl (by kernel_rfl) (by kernel_rfl) (by kernel_rfl) rfl rfl (OpV.load_own (i := 3) rfl hB Tryz.isAgg3 rfl rfl (setInt_get (by omega)) (fun ⟨j, h1, h2, _⟩ => by subst h2; cases h1)) ?_
    refine VA.take (i := 6) rfl (by kernel_rfl) (by kernel_rfl) (by kernel_rfl) rfl rfl (OpV.move (.inl rfl) rfl) ?_
    refine VA.take (i := 7) rfl (by kernel_rfl) (by kernel_rfl) (by kernel_rfl) rfl rfl (OpV.move (.inl rfl) rfl) ?_
    refine VA.take (i := 8) rfl (by kernel_rfl) (by kernel_rfl) (by kernel_rfl) rfl rfl (OpV.move (.inl rfl) rfl) ?_
    refine VA.take (i := 9) rfl (by kernel_rfl) (by kernel_rfl) (by kernel_rfl) rfl rfl (OpV.bdiff (a := s) (b := c) rfl rfl rfl (by omega) (by omega)) ?_
    refine VA.take (i := 10) rfl (by kernel_rfl) (by kernel_rfl) (by kernel_rfl) rfl rfl (OpV.indexAddr_o rfl Tryz.underlying22 Tryz.sizeOf3 rfl rfl rfl (by omega)) ?_
    refine VA.takeT [11, 16, 17, 19] (i := 11) (by kernel_rfl) (by kernel_rfl) rfl (by kernel_rfl) (by kernel_rfl) (by kernel_rfl) rfl rfl (OpV.load_own (i := 1) rfl hB Tryz.isAgg3 rfl rfl (intsL_getV (by omega) hb1) (fun ⟨j, h1, h2, _⟩ => by subst h2; cases h1)) ?_
    refine VA.take (i := 12) rfl (by kernel_rfl) (by kernel_rfl) (by kernel_rfl) rfl rfl (OpV.move (.inl rfl) rfl) ?_
    refine VA.take (i := 13) rfl (by kernel_rfl) (by kernel_rfl) (by kernel_rfl) rfl rfl (OpV.move (.inl rfl) rfl) ?_
    refine VA.take (i := 14) rfl (by kernel_rfl) (by kernel_rfl) (by kernel_rfl) rfl rfl (OpV.indexAddr_o rfl Tryz.underlying22 Tryz.sizeOf3 rfl rfl rfl (by omega)) ?_
    refine VA.takeT [15, 16, 17, 19] (i := 15) (by kernel_rfl) (by kernel_rfl) rfl (by kernel_rfl) (by kernel_rfl) (by kernel_rfl) rfl rfl (OpV.load_own (i := 2) rfl hB Tryz.isAgg3 rfl rfl (intsL_getV (by omega) hb2) (fun ⟨j, h1, h2, _⟩ => by subst h2; cases h1)) ?_
    refine VA.take (i := 16) rfl (by kernel_rfl) (by kernel_rfl) (by kernel_rfl) rfl rfl (OpV.max2 rfl rfl rfl) ?_
    refine VA.take (i := 17) rfl (by kernel_rfl) (by kernel_rfl) (by kernel_rfl) rfl rfl (OpV.min2 rfl rfl rfl) ?_
    refine VA.take (i := 18) rfl (by kernel_rfl) (by kernel_rfl) (by kernel_rfl) rfl rfl (OpV.indexAddr_o rfl Tryz.underlying22 Tryz.sizeOf3 rfl rfl rfl (by omega)) ?_
    refine VA.all (rs := [19]) (by kernel_rfl) (by decide) ?_
    refine ⟨⟨_, rfl, .inl rfl, ?_⟩, trivial⟩
    refine OpE.store1 (i := 3) rfl hB rfl Tryz.sizeOf3 rfl rfl rfl rfl rfl rfl (by rw [intsL_len, List.length_set]; omega) (setInt_set _ _ _ _) (by first | exact ⟨rfl, rfl⟩ | exact .inl ⟨rfl, rfl⟩ | exact .inr ⟨rfl, rfl⟩ | exact ⟨rfl, trivial⟩ | exact .inl ⟨rfl, trivial⟩ | exact .inr ⟨rfl, trivial⟩ | exact ⟨by decide, rfl⟩) ?_
    refine VA.done (by kernel_rfl) ?_
    refine VC.sr ?_
    refine VO.mv rfl rfl rfl rfl ?_
    refine VO.val rfl rfl (OpV.eql rfl rfl rfl) ?_
    refine VO.nil ?_
    refine VC.cond rfl (fun h3b => ?_) (fun h3b => ?_)
    ·have h3 := h3b
     try simp only [qqT, qqF, qqN, qqM, qqL, qqE] at h3
     have hfin : min v (mxBA ms ns fx k s c) = belS ms ns fx (k + 1) s := hV.last (mxBA_nn hMn k s) (by omega)
     refine VC.le _ (Le.pickH (hp := [fixB gf ms.length fx, .box gb ⟨intsL bl, 3, rest + 1⟩, .box g37 ⟨intsL al2, 3, rest + 1⟩, .box g62 ⟨intsL (af.set s (belS ms ns fx (k + 1) s)), 3, rest + 1⟩]) [0, 1, 2, 3] rfl (by rw [← hfin]; rfl)) ?_
     refine VC.exit ?_
     refine VC.sr ?_
     refine VO.mv rfl rfl rfl rfl ?_
     refine VO.val rfl rfl (OpV.eql rfl rfl rfl) ?_
     refine VO.nil ?_
     refine VC.cond rfl (fun h4b => ?_) (fun h4b => ?_)
     ·have h4 := h4b
      try simp only [qqT, qqF, qqN, qqM, qqL, qqE] at h4
      obtain ⟨af2, hF1, hF2⟩ : ∃ af2, af.set s (belS ms ns fx (k + 1) s) = af2 ∧ SetI rest (belS ms ns fx (k + 1)) af2 := ⟨_, rfl, hF.last (by omega) rfl⟩
      refine VC.le _ (Le.pickH (hp := [fixB gf ms.length fx, .box gb ⟨intsL bl, 3, rest + 1⟩, .box g37 ⟨intsL al2, 3, rest + 1⟩, .box g62 ⟨intsL af2, 3, rest + 1⟩]) [0, 1, 2, 3] rfl (by rw [← hF1]; rfl)) ?_
      refine VC.exit ?_
      refine VC.region ?_
      refine VO.mv rfl rfl rfl rfl ?_
      refine VO.ma rfl rfl rfl rfl ?_
      refine VO.nil ?_
      refine VC.region ?_
      refine VO.val rfl rfl (OpV.add rfl rfl rfl (by unfold fits; omega)) ?_
      refine VO.mv rfl rfl rfl rfl ?_
      refine VO.nil ?_
      exact Exists.intro (⟨(g62, af2, k + 1), by show k + 1 ≤ _; omega, hF2⟩) (And.intro (Le.mk hB [0, 3] ⟨rfl, rfl, rfl, rfl, rfl, trivial⟩ rfl rfl (Nat.le_refl _)) (by first | omega | (show _ < _; omega) | (simp only []; omega)))
     ·have h4 := h4b
      try simp only [qqT, qqF, qqN, qqM, qqL, qqE] at h4
      refine VC.skip ?_
      refine VC.region ?_
      refine VO.mv rfl rfl rfl rfl ?_
      refine VO.val rfl rfl (OpV.sub rfl rfl rfl (by unfold fits; omega)) ?_
      refine VO.le _ (Le.recast (t := 65) (y := avI ((s - 1 : Nat) : Int)) rfl (fun w Z u h => by rw [show ((s - 1 : Nat) : Int) = (s : Int) - 1 by omega]; exact h)) ?_
      refine VO.mv rfl rfl rfl rfl ?_
      refine VO.val rfl rfl (OpV.band (a := s - 1) (b := rest) rfl rfl rfl (by omega) (by omega)) ?_
      refine VO.ma rfl rfl rfl rfl ?_
      refine VO.nil ?_
      have hdec : (s - 1) &&& rest < s := sub_dec (by omega)
      exact Exists.intro (⟨(af.set s (belS ms ns fx (k + 1) s), (s - 1) &&& rest), hF.next (by omega) rfl⟩) (And.intro (Le.mk hB [0, 1, 2, 3] ⟨rfl, rfl, rfl, rfl, rfl, rfl, rfl, rfl, trivial⟩ rfl rfl (Nat.le_refl _)) (by first | omega | (show _ < _; omega) | (simp only []; omega)))
    ·have h3 := h3b
     try simp only [qqT, qqF, qqN, qqM, qqL, qqE] at h3
     refine VC.skip ?_
     refine VC.region ?_
     refine VO.mv rfl rfl rfl rfl ?_
     refine VO.val rfl rfl (OpV.sub rfl rfl rfl (by unfold fits; omega)) ?_
     refine VO.le _ (Le.recast (t := 73) (y := avI ((c - 1 : Nat) : Int)) rfl (fun w Z u h => by rw [show ((c - 1 : Nat) : Int) = (c : Int) - 1 by omega]; exact h)) ?_
     refine VO.mv rfl rfl rfl rfl ?_
     refine VO.val rfl rfl (OpV.band (a := c - 1) (b := s) rfl rfl rfl (by omega) (by omega)) ?_
     refine VO.ma rfl rfl rfl rfl ?_
     refine VO.nil ?_
     have hdec : (c - 1) &&& s < c := sub_dec (by omega)
     exact Exists.intro (⟨(min v (mxBA ms ns fx k s c), (c - 1) &&& s), hV.next (mxBA_nn hMn k s c) (by omega)⟩) (And.intro (Le.mk hB [0, 1, 2, 3] ⟨rfl, rfl, rfl, rfl, rfl, rfl, rfl, rfl, rfl, trivial⟩ rfl rfl (Nat.le_refl _)) (by first | omega | (show _ < _; omega) | (simp only []; omega)))
   ·have h2 := h2b
    try simp only [qqT, qqF, qqN, qqM, qqL, qqE] at h2
    refine VC.skip ?_
    refine VC.region ?_
    refine VO.mv rfl rfl rfl rfl ?_
    refine VO.val rfl rfl (OpV.sub rfl rfl rfl (by unfold fits; omega)) ?_
    refine VO.le _ (Le.recast (t := 40) (y := avI ((cur - 1 : Nat) : Int)) rfl (fun w Z u h => by rw [show ((cur - 1 : Nat) : Int) = (cur : Int) - 1 by omega]; exact h)) ?_
    refine VO.mv rfl rfl rfl rfl ?_
    refine VO.val rfl rfl (OpV.band (a := cur - 1) (b := rest) rfl rfl rfl (by omega) (by omega)) ?_
    refine VO.ma rfl rfl rfl rfl ?_
    refine VO.nil ?_
    have hdec : (cur - 1) &&& rest < cur := sub_dec (by omega)
    exact Exists.intro (⟨(al.set cur (alnS ms ns fx k cur), (cur - 1) &&& rest), hG.next (by omega) rfl⟩) (And.intro (Le.mk hB [0, 1, 2] ⟨rfl, rfl, rfl, rfl, rfl, rfl, rfl, rfl, trivial⟩ rfl rfl (Nat.le_refl _)) (by first | omega | (show _ < _; omega) | (simp only []; omega)))
  ·have aH2 := aH2b
   try simp only [qqT, qqF, qqN, qqM, qqL, qqE] at aH2
   obtain rfl : k = ms.length := by omega
   have hlast := hS.at_ rest (SubN.refl rest)
   refine VC.exit ?_
   refine VC.sr ?_
   refine VO.mv rfl rfl rfl rfl ?_
   refine VO.mv rfl rfl rfl rfl ?_
   refine VO.val rfl rfl (OpV.indexAddr_o rfl Tryz.underlying22 Tryz.sizeOf3 rfl rfl rfl (by omega)) ?_
   refine VO.val rfl rfl (OpV.load_own (i := 1) rfl hB Tryz.isAgg3 rfl rfl (intsL_getV (by omega) hlast) (fun h => h)) ?_
   refine VO.ma rfl rfl rfl rfl ?_
   refine VO.nil ?_
   refine VC.le _ (Le.pickH [0] rfl rfl) ?_
   refine VC.ret ?_
   exact Exists.intro _ (And.intro (RetV.one Tryz.results173 (ResV.tmp rfl)) (⟨rfl, rfl⟩))
end Go.Proofs.YtaaokimiadfidaaGreatDoor
namespace Go.Proofs.YtaaokimiadfidaaGreatDoor
open Go.RowKit
set_option linter.unusedVariables false
set_option linter.unusedSimpArgs false
section
variable {ms : List Mach} {ns : List NeedS} {pl G : List Int} {B : Int} {q k : Nat}
theorem bal_no (hq : q < ns.length) (hB : bstV ms ns (ns.length - q) pl = B) (hlt : B < neverC) (hn : ∀ j, j < ms.length → bstV ms ns (ns.length - q - 1) (pl ++ [(j : Int)]) ≠ B) : False := by
 obtain ⟨d, hd⟩ : ∃ d, ns.length - q = d + 1 := ⟨ns.length - q - 1, by omega⟩
 rw [hd] at hB hn
 exact grd_some (by rw [hB]; exact hlt) fun j hj => by rw [hB]; exact hn j hj
theorem bal_step (hq : q < ns.length) (hk : k < ms.length) (hB : bstV ms ns (ns.length - q) pl = B) (hG : grd ms ns (ns.length - q) pl = G) (h5 : bstV ms ns (ns.length - q - 1) (pl ++ [(k : Int)]) = B) (hn : ∀ j, j < k → bstV ms ns (ns.length - q - 1) (pl ++ [(j : Int)]) ≠ B) : bstV ms ns (ns.length - (q + 1)) (pl ++ [(k : Int)]) = B ∧ grd ms ns (ns.length - (q + 1)) (pl ++ [(k : Int)]) = G := by
 obtain ⟨d, hd⟩ : ∃ d, ns.length - q = d + 1 := ⟨ns.length - q - 1, by omega⟩
 have e : ns.length - (q + 1) = d := by omega
 rw [hd] at hB hG h5 hn
 rw [e]
 refine ⟨h5, ?_⟩
 rw [← hG, grd_next hk (by rw [hB]; exact h5) fun j hj => by rw [hB]; exact hn j hj]
theorem bel_next (hM : MnOk ms ns) (hl : pl.length = q) (hq : q < ns.length) : belS ms ns (mskP (pl ++ [(k : Int)])) ms.length (rst ns.length (q + 1)) = bstV ms ns (ns.length - q - 1) (pl ++ [(k : Int)]) := by
 have := belS_bst hM (pl := pl ++ [(k : Int)]) (d := ns.length - q - 1) (by simp; omega)
 rw [List.length_append, hl] at this
 exact this
theorem bel_first (hM : MnOk ms ns) : belS ms ns (mskP []) ms.length (rst ns.length 0) = bstV ms ns ns.length [] := belS_bst hM (pl := []) (d := ns.length) (by simp)
theorem pow12 {n : Nat} (h : n ≤ 12) : 1 ≤ 2 ^ n ∧ 2 ^ n ≤ 4096 := ⟨Nat.one_le_two_pow, show 2 ^ n ≤ 2 ^ 12 from Nat.pow_le_pow_right (by decide) h⟩
theorem msk12 (h : pl.length ≤ 12) (k : Nat) : mskP pl k < 4096 := Nat.lt_of_lt_of_le (mskP_lt pl k) (pow12 h).2
theorem rst12 {n : Nat} (h : n ≤ 12) (i : Nat) : rst n i < 4096 := Nat.lt_of_lt_of_le (rst_lt n i) (pow12 h).2
theorem bal_1 (h : faultF ms ns ≠ 0) : balE ms ns = faultF ms ns ∧ balOk ms ns = false ∧ balL ms ns = [] ∧ balV ms ns = 0 := by
 have e : balE ms ns = faultF ms ns := by rw [balE, if_pos h]
 have e2 : balOk ms ns = false := by rw [balOk, e, decide_eq_false h]; rfl
 exact ⟨e, e2, by rw [balL, e2]; rfl, by rw [balV, e2]; rfl⟩
theorem bal_2 (h : faultF ms ns = 0) (h2 : 12 < ns.length) : balE ms ns = 2 ∧ balOk ms ns = false ∧ balL ms ns = [] ∧ balV ms ns = 0 := by
 have e : balE ms ns = 2 := by rw [balE, if_neg (by omega), if_pos h2]
 have e2 : balOk ms ns = false := by rw [balOk, e]; rfl
 exact ⟨e, e2, by rw [balL, e2]; rfl, by rw [balV, e2]; rfl⟩
theorem bal_3 (h : faultF ms ns = 0) (h2 : ns.length ≤ 12) (h3 : ¬ bstV ms ns ns.length [] < neverC) : balE ms ns = 0 ∧ balOk ms ns = false ∧ balL ms ns = [] ∧ balV ms ns = 0 := by
 have e : balE ms ns = 0 := by rw [balE, if_neg (by omega), if_neg (by omega)]
 have e2 : balOk ms ns = false := by rw [balOk, e, decide_eq_false h3]; rfl
 exact ⟨e, e2, by rw [balL, e2]; rfl, by rw [balV, e2]; rfl⟩
theorem bal_4 (h : faultF ms ns = 0) (h2 : ns.length ≤ 12) (h3 : bstV ms ns ns.length [] < neverC) : balE ms ns = 0 ∧ balOk ms ns = true ∧ balL ms ns = grd ms ns ns.length [] ∧ balV ms ns = bstV ms ns ns.length [] := by
 have e : balE ms ns = 0 := by rw [balE, if_neg (by omega), if_neg (by omega)]
 have e2 : balOk ms ns = true := by rw [balOk, e, decide_eq_true h3]; rfl
 exact ⟨e, e2, by rw [balL, e2]; rfl, by rw [balV, e2]; rfl⟩
end
theorem mskT_yes {pl : List Int} {k q n : Nat} (hl : pl.length = q) : (tabI n fun j => ((mskP pl j : Nat) : Int)).set k ((mskP pl k ||| 2 ^ q : Nat) : Int) = tabI n fun j => ((mskP (pl ++ [(k : Int)]) j : Nat) : Int) :=
 tabI_set' (by rw [mskP_snoc, if_pos rfl, hl]) fun j _ hne => by rw [mskP_snoc, if_neg hne]
theorem mskT_no {pl : List Int} {k q n : Nat} (hl : pl.length = q) : (tabI n fun j => ((mskP (pl ++ [(k : Int)]) j : Nat) : Int)).set k ((ndiff (mskP (pl ++ [(k : Int)]) k) (2 ^ q) : Nat) : Int) = tabI n fun j => ((mskP pl j : Nat) : Int) :=
 tabI_set' (by rw [mskP_snoc, if_pos rfl, ← hl, mskP_back]) fun j _ hne => by rw [mskP_snoc, if_neg hne]
set_option maxRecDepth 100000 in
set_option maxHeartbeats 16000000 in
theorem line_Balance {ms : List Mach} {ns : List NeedS} (hm : SmallM ms) (hn : SmallN ns) :
  Spec Tryz.prog 69 [avL ms, avL ns] (fun y => y = .tup [avInts (balL ms ns), avI (balV ms ns), avB (balOk ms ns), avI (balE ms ns)]) := by
 refine Spec.of_VC Tryz.func69 rfl Tryz.ntmps69 (Nle rfl) fun w A hB => ?_
 have hnew : True := trivial
 refine VC.sr ?_
 refine VO.ma rfl rfl rfl rfl ?_
 refine VO.ma rfl rfl rfl rfl ?_
 refine VO.ma rfl rfl rfl rfl ?_
 refine VO.ma rfl rfl rfl rfl ?_
 refine VO.nil ?_
 refine VC.seq ?_
 refine VC.sr ?_
 refine VO.mv rfl rfl rfl rfl ?_
 refine VO.mv rfl rfl rfl rfl ?_
 refine VO.op rfl (OpE.call rfl hB rfl Tryz.call172 rfl (SpecN.spec (line_fault hm.l hm.k hm.c hm.s hn.l hn.k)) ?_)
 rintro _ rfl
 refine VO.ma rfl rfl rfl rfl ?_
 refine VO.nil ?_
 refine VC.sr ?_
 refine VO.mv rfl rfl rfl rfl ?_
 refine VO.val rfl rfl (OpV.neq rfl rfl rfl) ?_
 refine VO.nil ?_
 refine VC.cond rfl (fun h0b => ?_) (fun h0b => ?_)
 ·have h0 := h0b
  try simp only [qqT, qqF, qqN, qqM, qqL, qqE] at h0
  refine VC.sr ?_
  refine VO.mv rfl rfl rfl rfl ?_
  refine VO.ma rfl rfl rfl rfl ?_
  refine VO.ma rfl rfl rfl rfl ?_
  refine VO.ma rfl rfl rfl rfl ?_
  refine VO.ma rfl rfl rfl rfl ?_
  refine VO.nil ?_
  refine VC.le _ (Le.recast (t := 4) (y := avInts []) rfl (fun w Z u h => by rw [h.eq_v]; exact .nil _ _)) ?_
  refine VC.ret ?_
  exact Exists.intro _ (And.intro (RetV.four Tryz.results69 (ResV.tmp rfl) (ResV.tmp rfl) (ResV.tmp rfl) (ResV.tmp rfl)) (by rw [(bal_1 h0).1, (bal_1 h0).2.1, (bal_1 h0).2.2.1, (bal_1 h0).2.2.2]))
 ·have h0 := h0b
  try simp only [qqT, qqF, qqN, qqM, qqL, qqE] at h0
  have hf0 : faultF ms ns = 0 := by omega
  obtain ⟨hmf, hnf⟩ := faultF_0 hf0
  have hM := MnOk.mk' hmf hnf
  have hlen := machF_len hmf
  refine VC.skip ?_
  refine VC.seq ?_
  refine VC.sr ?_
  refine VO.mv rfl rfl rfl rfl ?_
  refine VO.val rfl rfl (OpV.len_im rfl Tryz.underlying77 rfl) ?_
  refine VO.val rfl rfl (OpV.gtr rfl rfl rfl) ?_
  refine VO.nil ?_
  refine VC.cond rfl (fun h1b => ?_) (fun h1b => ?_)
  ·have h1 := h1b
   try simp only [qqT, qqF, qqN, qqM, qqL, qqE] at h1
   refine VC.sr ?_
   refine VO.ma rfl rfl rfl rfl ?_
   refine VO.ma rfl rfl rfl rfl ?_
   refine VO.ma rfl rfl rfl rfl ?_
   refine VO.ma rfl rfl rfl rfl ?_
   refine VO.nil ?_
   refine VC.le _ (Le.recast (t := 4) (y := avInts []) rfl (fun w Z u h => by rw [h.eq_v]; exact .nil _ _)) ?_
   refine VC.ret ?_
   exact Exists.intro _ (And.intro (RetV.four Tryz.results69 (ResV.tmp rfl) (ResV.tmp rfl) (ResV.tmp rfl) (ResV.tmp rfl)) (by rw [(bal_2 hf0 (by omega)).1, (bal_2 hf0 (by omega)).2.1, (bal_2 hf0 (by omega)).2.2.1, (bal_2 hf0 (by omega)).2.2.2]))
  ·have h1 := h1b
   try simp only [qqT, qqF, qqN, qqM, qqL, qqE] at h1
   have h12 : ns.length ≤ 12 := by omega
   have hpw := pow12 h12
   refine VC.skip ?_
   refine VC.sr ?_
   refine VO.mv rfl rfl rfl rfl ?_
   refine VO.mv rfl rfl rfl rfl ?_
   refine VO.mv rfl rfl rfl rfl ?_
   refine VO.val rfl rfl (OpV.len_im rfl Tryz.underlying102 rfl) ?_
   refine VO.op rfl (OpE.make rfl hB rfl Tryz.underlying22 (infoOf Tryz.t3 1 (by kernel_rfl) rfl rfl) (by decide) rfl rfl (n := ms.length) rfl rfl (by omega) (made_ints _) ?_)
   intro g28
   rw [intsL_len, List.length_replicate]
   refine VO.val rfl rfl (OpV.build (pls := #[(0, 1), (1, 1), (2, 1)]) rfl Tryz.zeroValue221 Tryz.underlying221 (fun w => by kernel_rfl) rfl rfl) ?_
   refine VO.op rfl (OpE.box rfl hB rfl rfl rfl ?_)
   intro g30
   refine VO.ma rfl rfl rfl rfl ?_
   refine VO.nil ?_
   refine VC.seq ?_
   refine VC.le _ (Le.freezeAt (t := 9) (i := 1) (m := 3) (f := balC ms ns (.slice (some ⟨g28, 0, none⟩) ms.length ms.length)) rfl rfl (Nle rfl) (fun w Z u h => h.at_congr (g := balC ms ns (.slice (some ⟨g28, 0, none⟩) ms.length ms.length)) (fun j hj => by rcases j with _ | _ | _ | j <;> first | rfl | omega)) hnew hB) ?_
   refine VC.le _ (Le.pickH (hp := [fixB g28 ms.length (mskP [])]) [0] rfl (by rw [tabI_rep]; rfl)) ?_
   refine VC.region ?_
   refine VO.mv rfl rfl rfl rfl ?_
   refine VO.val rfl rfl (OpV.len_im rfl Tryz.underlying77 rfl) ?_
   refine VO.val rfl rfl (OpV.bshl1 rfl rfl rfl (by omega)) ?_
   refine VO.val rfl rfl (OpV.sub rfl rfl rfl (by unfold fits; omega)) ?_
   refine VO.le _ (Le.recast (t := 34) (y := avI ((rst ns.length 0 : Nat) : Int)) rfl (fun w Z u h => by rw [rst_zero, show ((2 ^ ns.length - 1 : Nat) : Int) = ((2 ^ ns.length : Nat) : Int) - 1 by omega]; exact h)) ?_
   refine VO.ma rfl rfl rfl rfl ?_
   refine VO.nil ?_
   refine VC.sr ?_
   refine VO.mv rfl rfl rfl rfl ?_
   refine VO.mv rfl rfl rfl rfl ?_
   refine VO.op rfl (OpE.callH0 rfl hB rfl Tryz.call173 rfl rfl (bal_longest hmf hnf h12 (rst12 h12 0) (msk12 (by simp))) (List.Perm.refl _) (fun _ _ => trivial) ?_)
   rintro _ _ ⟨rfl, rfl⟩
   obtain ⟨B, hBv⟩ : ∃ B, bstV ms ns ns.length [] = B := ⟨_, rfl⟩
   refine VO.le _ (Le.recast (t := 37) (y := avI B) rfl (fun w Z u h => by rw [← hBv, ← bel_first hM]; exact h)) ?_
   have hBi := bstV_in hM ns.length []
   rw [hBv] at hBi
   refine VO.ma rfl rfl rfl rfl ?_
   refine VO.nil ?_
   refine VC.seq ?_
   refine VC.sr ?_
   refine VO.mv rfl rfl rfl rfl ?_
   refine VO.val rfl rfl (OpV.eql rfl rfl rfl) ?_
   refine VO.nil ?_
   refine VC.cond rfl (fun h2b => ?_) (fun h2b => ?_)
   ·have h2 := h2b
    try simp only [qqT, qqF, qqN, qqM, qqL, qqE] at h2
    have h3 : ¬ bstV ms ns ns.length [] < neverC := by rw [hBv]; simp only [neverC]; omega
    refine VC.sr ?_
    refine VO.ma rfl rfl rfl rfl ?_
    refine VO.ma rfl rfl rfl rfl ?_
    refine VO.ma rfl rfl rfl rfl ?_
    refine VO.ma rfl rfl rfl rfl ?_
    refine VO.nil ?_
    refine VC.le _ (Le.recast (t := 4) (y := avInts []) rfl (fun w Z u h => by rw [h.eq_v]; exact .nil _ _)) ?_
    refine VC.ret ?_
    exact Exists.intro _ (And.intro (RetV.four Tryz.results69 (ResV.tmp rfl) (ResV.tmp rfl) (ResV.tmp rfl) (ResV.tmp rfl)) (by rw [(bal_3 hf0 h12 h3).1, (bal_3 hf0 h12 h3).2.1, (bal_3 hf0 h12 h3).2.2.1, (bal_3 hf0 h12 h3).2.2.2]))
   ·have h2 := h2b
    try simp only [qqT, qqF, qqN, qqM, qqL, qqE] at h2
    have hlt : B < neverC := by simp only [neverC] at hBi ⊢; omega
    refine VC.skip ?_
    refine VC.sr ?_
    refine VO.ma rfl rfl rfl rfl ?_
    refine VO.nil ?_
    refine VC.seq ?_
    refine VC.sr ?_
    refine VO.mv rfl rfl rfl rfl ?_
    refine VO.val rfl rfl (OpV.len_im rfl Tryz.underlying77 rfl) ?_
    refine VO.mv rfl rfl rfl rfl ?_
    refine VO.nil ?_
    refine VC.block ?_
    refine VC.le _ (Le.nilRow 1 3) ?_
    refine VC.loopK [(0, _), (9, _), (11, _), (41, _)] ⟨rfl, rfl, rfl, rfl, trivial⟩ ({z : Value × List Int × Nat // z.2.2 ≤ ns.length ∧ z.2.1.length = z.2.2 ∧ bstV ms ns (ns.length - z.2.2) z.2.1 = B ∧ grd ms ns (ns.length - z.2.2) z.2.1 = grd ms ns ns.length []}) (fun (iZ : {z : Value × List Int × Nat // z.2.2 ≤ ns.length ∧ z.2.1.length = z.2.2 ∧ bstV ms ns (ns.length - z.2.2) z.2.1 = B ∧ grd ms ns (ns.length - z.2.2) z.2.1 = grd ms ns ns.length []}) => match iZ with | ⟨⟨u, pl, q⟩, hq, hl, hpb, hpg⟩ => [(10, avI ((rst ns.length q : Nat) : Int)), (12, .v u), (42, avI (q : Int))]) (fun (iZ : {z : Value × List Int × Nat // z.2.2 ≤ ns.length ∧ z.2.1.length = z.2.2 ∧ bstV ms ns (ns.length - z.2.2) z.2.1 = B ∧ grd ms ns (ns.length - z.2.2) z.2.1 = grd ms ns ns.length []}) => match iZ with | ⟨⟨u, pl, q⟩, hq, hl, hpb, hpg⟩ => [fixB g28 ms.length (mskP pl), .row u pl.length 1 (intsL pl) 3]) (fun (iZ : {z : Value × List Int × Nat // z.2.2 ≤ ns.length ∧ z.2.1.length = z.2.2 ∧ bstV ms ns (ns.length - z.2.2) z.2.1 = B ∧ grd ms ns (ns.length - z.2.2) z.2.1 = grd ms ns ns.length []}) => match iZ with | ⟨⟨u, pl, q⟩, hq, hl, hpb, hpg⟩ => 0) (fun (iZ : {z : Value × List Int × Nat // z.2.2 ≤ ns.length ∧ z.2.1.length = z.2.2 ∧ bstV ms ns (ns.length - z.2.2) z.2.1 = B ∧ grd ms ns (ns.length - z.2.2) z.2.1 = grd ms ns ns.length []}) => match iZ with | ⟨⟨u, pl, q⟩, hq, hl, hpb, hpg⟩ => ns.length - q) ⟨(.slice none 0 0, [], 0), Nat.zero_le _, rfl, hBv, rfl⟩ (Le.mk hB [0, 1] ⟨rfl, rfl, rfl, rfl, rfl, rfl, rfl, trivial⟩ rfl rfl (Nat.le_refl _)) ?_
    rintro ⟨⟨u, pl, q⟩, hq, hl, hpb, hpg⟩
    show VC _ _ _ _ ⟨[(10, avI ((rst ns.length q : Nat) : Int)), (12, .v u), (42, avI (q : Int))] ++ [(0, _), (9, _), (11, _), (41, _)], [fixB g28 ms.length (mskP pl), .row u pl.length 1 (intsL pl) 3], 0⟩
    simp only at hq hl hpb hpg
    refine VC.sr ?_
    refine VO.val rfl rfl (OpV.lss rfl rfl rfl) ?_
    refine VO.nil ?_
    refine VC.seq ?_
    refine VC.cond rfl (fun aH1b => ?_) (fun aH1b => ?_)
    ·have aH1 := aH1b
     try simp only [qqT, qqF, qqN, qqM, qqL, qqE] at aH1
     refine VC.skip ?_
     refine VC.seq ?_
     refine VC.block ?_
     refine VC.sr ?_
     refine VO.mv rfl rfl rfl rfl ?_
     refine VO.ma rfl rfl rfl rfl ?_
     refine VO.nil ?_
     refine VC.sr ?_
     refine VO.mv rfl rfl rfl rfl ?_
     refine VO.mv rfl rfl rfl rfl ?_
     refine VO.val rfl rfl (OpV.bshl1 rfl rfl rfl (by omega)) ?_
     refine VO.val rfl rfl (OpV.bdiff (a := rst ns.length q) (b := 2 ^ q) rfl rfl rfl (by have := rst12 h12 q; omega) (by have := (pow12 (n := q) (by omega)).2; omega)) ?_
     refine VO.le _ (Le.recast (t := 48) (y := avI ((rst ns.length (q + 1) : Nat) : Int)) rfl (fun w Z u h => by rw [← rst_succ]; exact h)) ?_
     refine VO.ma rfl rfl rfl rfl ?_
     refine VO.nil ?_
     refine VC.sr ?_
     refine VO.mv rfl rfl rfl rfl ?_
     refine VO.val rfl rfl (OpV.len_im rfl Tryz.underlying102 rfl) ?_
     refine VO.mv rfl rfl rfl rfl ?_
     refine VO.nil ?_
     refine VC.block ?_
     have hq1 : q < ns.length := by omega
     have hq2 := (pow12 (n := q) (by omega)).2
     refine VC.loopK [(0, _), (9, _), (10, _), (11, _), (13, _), (41, _), (42, _), (50, _)] ⟨rfl, rfl, rfl, rfl, rfl, rfl, rfl, rfl, trivial⟩ ({k : Nat // k ≤ ms.length ∧ ∀ j, j < k → bstV ms ns (ns.length - q - 1) (pl ++ [(j : Int)]) ≠ B}) (fun (iZ : {k : Nat // k ≤ ms.length ∧ ∀ j, j < k → bstV ms ns (ns.length - q - 1) (pl ++ [(j : Int)]) ≠ B}) => match iZ with | ⟨k, hk, hns⟩ => [(12, .v u), (51, avI (k : Int))]) (fun (iZ : {k : Nat // k ≤ ms.length ∧ ∀ j, j < k → bstV ms ns (ns.length - q - 1) (pl ++ [(j : Int)]) ≠ B}) => match iZ with | ⟨k, hk, hns⟩ => [fixB g28 ms.length (mskP pl), .row u pl.length 1 (intsL pl) 3]) (fun (iZ : {k : Nat // k ≤ ms.length ∧ ∀ j, j < k → bstV ms ns (ns.length - q - 1) (pl ++ [(j : Int)]) ≠ B}) => match iZ with | ⟨k, hk, hns⟩ => 0) (fun (iZ : {k : Nat // k ≤ ms.length ∧ ∀ j, j < k → bstV ms ns (ns.length - q - 1) (pl ++ [(j : Int)]) ≠ B}) => match iZ with | ⟨k, hk, hns⟩ => ms.length - k) ⟨0, Nat.zero_le _, fun j hj => absurd hj (Nat.not_lt_zero j)⟩ (Le.mk hB [0, 1] ⟨rfl, rfl, rfl, rfl, rfl, rfl, rfl, rfl, rfl, rfl, trivial⟩ rfl rfl (Nat.le_refl _)) ?_
     rintro ⟨k, hk, hns⟩
     show VC _ _ _ _ ⟨[(12, .v u), (51, avI (k : Int))] ++ [(0, _), (9, _), (10, _), (11, _), (13, _), (41, _), (42, _), (50, _)], [fixB g28 ms.length (mskP pl), .row u pl.length 1 (intsL pl) 3], 0⟩
     refine VC.sr ?_
     refine VO.val rfl rfl (OpV.lss rfl rfl rfl) ?_
     refine VO.nil ?_
     refine VC.seq ?_
     refine VC.cond rfl (fun h4b => ?_) (fun h4b => ?_)
     ·have h4 := h4b
      try simp only [qqT, qqF, qqN, qqM, qqL, qqE] at h4
      refine VC.skip ?_
      refine VC.seq ?_
      refine VC.block ?_
      refine VC.sr ?_
      refine VO.mv rfl rfl rfl rfl ?_
      refine VO.ma rfl rfl rfl rfl ?_
      refine VO.nil ?_
      refine VC.seq ?_
      refine VC.draw (fun j b => j = 11 ∧ b = g28) hB (by kernel_rfl) ?_
      refine VA.take (i := 0) rfl (by kernel_rfl) (by kernel_rfl) (by kernel_rfl) rfl rfl (OpV.move (.inl rfl) rfl) ?_
      refine VA.take (i := 1) rfl (by kernel_rfl) (by kernel_rfl) (by kernel_rfl) rfl rfl (OpV.nilCheck_at rfl rfl) ?_
      refine VA.take (i := 2) rfl (by kernel_rfl) (by kernel_rfl) (by kernel_rfl) rfl rfl (OpV.fieldAddr_atO 2 rfl Tryz.underlying221 rfl rfl Tryz.sizeOf22 rfl rfl) ?_
      refine VA.take (i := 3) rfl (by kernel_rfl) (by kernel_rfl) (by kernel_rfl) rfl rfl (OpV.load_at rfl hB (by first | exact OutW.wi1 (k := 0) rfl rfl | exact OutW.wi1 (k := 1) rfl rfl) Tryz.isAgg22 rfl rfl) ?_
      refine VA.take (i := 4) rfl (by kernel_rfl) (by kernel_rfl) (by kernel_rfl) rfl rfl (OpV.move (.inl rfl) rfl) ?_
      refine VA.take (i := 5) rfl (by kernel_rfl) (by kernel_rfl) (by kernel_rfl) rfl rfl (OpV.indexAddr_o rfl Tryz.underlying22 Tryz.sizeOf3 rfl rfl rfl (by omega)) ?_
      refine VA.takeT [6, 9, 11] (i := 6) (by kernel_rfl) (by kernel_rfl) rfl (by kernel_rfl) (by kernel_rfl) (by kernel_rfl) rfl rfl (OpV.load_own (i := 0) rfl hB Tryz.isAgg3 rfl rfl (intsT_get (by omega)) (fun ⟨j, h1, h2, _⟩ => by subst h2; cases h1)) ?_
      refine VA.take (i := 7) rfl (by kernel_rfl) (by kernel_rfl) (by kernel_rfl) rfl rfl (OpV.move (.inl rfl) rfl) ?_
      refine VA.take (i := 8) rfl (by kernel_rfl) (by kernel_rfl) (by kernel_rfl) rfl rfl (OpV.bshl1 rfl rfl rfl (by omega)) ?_
      refine VA.take (i := 9) rfl (by kernel_rfl) (by kernel_rfl) (by kernel_rfl) rfl rfl (OpV.bor (a := mskP pl k) (b := 2 ^ q) rfl rfl rfl (by have := msk12 (pl := pl) (by omega) k; omega) (by omega)) ?_
      refine VA.take (i := 10) rfl (by kernel_rfl) (by kernel_rfl) (by kernel_rfl) rfl rfl (OpV.indexAddr_o rfl Tryz.underlying22 Tryz.sizeOf3 rfl rfl rfl (by omega)) ?_
      refine VA.all (rs := [11]) (by kernel_rfl) (by decide) ?_
      refine ⟨⟨_, rfl, .inl rfl, ?_⟩, trivial⟩
      refine OpE.store1 (i := 0) rfl hB rfl Tryz.sizeOf3 rfl rfl rfl rfl rfl rfl (by rw [intsL_len, tabI_len]; omega) ((intsL_set _ _ _).trans (congrArg intsL (mskT_yes hl))) (by first | exact ⟨rfl, rfl⟩ | exact .inl ⟨rfl, rfl⟩ | exact .inr ⟨rfl, rfl⟩ | exact ⟨rfl, trivial⟩ | exact .inl ⟨rfl, trivial⟩ | exact .inr ⟨rfl, trivial⟩ | exact ⟨by decide, rfl⟩) ?_
      refine VA.done (by kernel_rfl) ?_
      refine VC.seq ?_
      refine VC.sr ?_
      refine VO.mv rfl rfl rfl rfl ?_
      refine VO.mv rfl rfl rfl rfl ?_
      refine VO.op rfl (OpE.callH (rest := [_]) rfl hB rfl Tryz.call173 rfl rfl (bal_longest hmf hnf h12 (rst12 h12 (q + 1)) (msk12 (pl := pl ++ [(k : Int)]) (by simp; omega))) (List.Perm.refl _) (fun _ _ => trivial) ?_)
      rintro _ _ ⟨rfl, rfl⟩
      refine VO.le _ (Le.recast (t := 67) (y := avI (bstV ms ns (ns.length - q - 1) (pl ++ [(k : Int)]))) rfl (fun w Z u h => by rw [← bel_next hM hl hq1]; exact h)) ?_
      refine VO.mv rfl rfl rfl rfl ?_
      refine VO.val rfl rfl (OpV.eql rfl rfl rfl) ?_
      refine VO.nil ?_
      refine VC.cond rfl (fun h5b => ?_) (fun h5b => ?_)
      ·have h5 := h5b
       try simp only [qqT, qqF, qqN, qqM, qqL, qqE] at h5
       refine VC.sr ?_
       refine VO.mv rfl rfl rfl rfl ?_
       refine VO.mv rfl rfl rfl rfl ?_
       refine VO.op rfl (OpE.buildSlice (zc := #[.int .i64 0]) rfl hB rfl Tryz.underlying22 Tryz.sizeOf3 Tryz.zeroValue3 (by decide) (by decide) (by kernel_rfl) rfl rfl ?_)
       refine VO.op rfl (OpE.append1 (i := 1) rfl hB rfl Tryz.underlying22 (infoOf Tryz.t3 1 (by kernel_rfl) rfl rfl) rfl (by decide) (by decide) rfl rfl rfl rfl (intsL_snoc _ _) (by omega) (fun _ _ => trivial) ?_)
       intro u73
       refine VO.ma rfl rfl rfl rfl ?_
       refine VO.nil ?_
       refine VC.exit ?_
       refine VC.region ?_
       refine VO.val rfl rfl (OpV.add rfl rfl rfl (by unfold fits; omega)) ?_
       refine VO.mv rfl rfl rfl rfl ?_
       refine VO.nil ?_
       exact Exists.intro (⟨(u73, pl ++ [(k : Int)], q + 1), by show q + 1 ≤ _; omega, by show (pl ++ [_]).length = q + 1; simp [hl], (bal_step (by omega) (by omega) hpb hpg (by simpa using h5) hns).1, (bal_step (by omega) (by omega) hpb hpg (by simpa using h5) hns).2⟩) (And.intro (Le.mk hB [0, 1] ⟨rfl, rfl, rfl, rfl, rfl, rfl, rfl, trivial⟩ rfl (by dsimp only; rw [List.length_append]; rfl) (Nat.le_refl _)) (by first | omega | (show _ < _; omega) | (simp only []; omega)))
      ·have h5 := h5b
       try simp only [qqT, qqF, qqN, qqM, qqL, qqE] at h5
       refine VC.skip ?_
       refine VC.draw (fun j b => j = 11 ∧ b = g28) hB (by kernel_rfl) ?_
       refine VA.take (i := 0) rfl (by kernel_rfl) (by kernel_rfl) (by kernel_rfl) rfl rfl (OpV.move (.inl rfl) rfl) ?_
       refine VA.take (i := 1) rfl (by kernel_rfl) (by kernel_rfl) (by kernel_rfl) rfl rfl (OpV.nilCheck_at rfl rfl) ?_
       refine VA.take (i := 2) rfl (by kernel_rfl) (by kernel_rfl) (by kernel_rfl) rfl rfl (OpV.fieldAddr_atO 2 rfl Tryz.underlying221 rfl rfl Tryz.sizeOf22 rfl rfl) ?_
       refine VA.take (i := 3) rfl (by kernel_rfl) (by kernel_rfl) (by kernel_rfl) rfl rfl (OpV.load_at rfl hB (by first | exact OutW.wi1 (k := 0) rfl rfl | exact OutW.wi1 (k := 1) rfl rfl) Tryz.isAgg22 rfl rfl) ?_
       refine VA.take (i := 4) rfl (by kernel_rfl) (by kernel_rfl) (by kernel_rfl) rfl rfl (OpV.move (.inl rfl) rfl) ?_
       refine VA.take (i := 5) rfl (by kernel_rfl) (by kernel_rfl) (by kernel_rfl) rfl rfl (OpV.indexAddr_o rfl Tryz.underlying22 Tryz.sizeOf3 rfl rfl rfl (by omega)) ?_
       refine VA.takeT [6, 9, 11] (i := 6) (by kernel_rfl) (by kernel_rfl) rfl (by kernel_rfl) (by kernel_rfl) (by kernel_rfl) rfl rfl (OpV.load_own (i := 0) rfl hB Tryz.isAgg3 rfl rfl (intsT_get (by omega)) (fun ⟨j, h1, h2, _⟩ => by subst h2; cases h1)) ?_
       refine VA.take (i := 7) rfl (by kernel_rfl) (by kernel_rfl) (by kernel_rfl) rfl rfl (OpV.move (.inl rfl) rfl) ?_
       refine VA.take (i := 8) rfl (by kernel_rfl) (by kernel_rfl) (by kernel_rfl) rfl rfl (OpV.bshl1 rfl rfl rfl (by omega)) ?_
       refine VA.take (i := 9) rfl (by kernel_rfl) (by kernel_rfl) (by kernel_rfl) rfl rfl (OpV.bdiff (a := mskP (pl ++ [(k : Int)]) k) (b := 2 ^ q) rfl rfl rfl (by have := msk12 (pl := pl ++ [(k : Int)]) (by simp; omega) k; omega) (by omega)) ?_
       refine VA.take (i := 10) rfl (by kernel_rfl) (by kernel_rfl) (by kernel_rfl) rfl rfl (OpV.indexAddr_o rfl Tryz.underlying22 Tryz.sizeOf3 rfl rfl rfl (by omega)) ?_
       refine VA.all (rs := [11]) (by kernel_rfl) (by decide) ?_
       refine ⟨⟨_, rfl, .inl rfl, ?_⟩, trivial⟩
       refine OpE.store1 (i := 0) rfl hB rfl Tryz.sizeOf3 rfl rfl rfl rfl rfl rfl (by rw [intsL_len, tabI_len]; omega) ((intsL_set _ _ _).trans (congrArg intsL (mskT_no hl))) (by first | exact ⟨rfl, rfl⟩ | exact .inl ⟨rfl, rfl⟩ | exact .inr ⟨rfl, rfl⟩ | exact ⟨rfl, trivial⟩ | exact .inl ⟨rfl, trivial⟩ | exact .inr ⟨rfl, trivial⟩ | exact ⟨by decide, rfl⟩) ?_
       refine VA.done (by kernel_rfl) ?_
       refine VC.region ?_
       refine VO.val rfl rfl (OpV.add rfl rfl rfl (by unfold fits; omega)) ?_
       refine VO.mv rfl rfl rfl rfl ?_
       refine VO.nil ?_
       exact Exists.intro (⟨k + 1, by omega, lt_succ_cases hns (by simpa using h5)⟩) (And.intro (Le.mk hB [0, 1] ⟨rfl, rfl, rfl, rfl, rfl, rfl, rfl, rfl, rfl, rfl, trivial⟩ rfl rfl (Nat.le_refl _)) (by first | omega | (show _ < _; omega) | (simp only []; omega)))
     ·have h4 := h4b
      try simp only [qqT, qqF, qqN, qqM, qqL, qqE] at h4
      exact VC.absurd (bal_no hq1 hpb hlt (fun j hj => hns j (by omega)))
    ·have aH1 := aH1b
     try simp only [qqT, qqF, qqN, qqM, qqL, qqE] at aH1
     refine VC.exit ?_
     refine VC.sr ?_
     refine VO.mv rfl rfl rfl rfl ?_
     refine VO.mv rfl rfl rfl rfl ?_
     refine VO.ma rfl rfl rfl rfl ?_
     refine VO.ma rfl rfl rfl rfl ?_
     refine VO.ma rfl rfl rfl rfl ?_
     refine VO.ma rfl rfl rfl rfl ?_
     refine VO.nil ?_
     obtain rfl : q = ns.length := by omega
     refine VC.le _ (Le.rowI (t := 4) (i := 1) (xs := pl) hB hnew rfl rfl rfl) ?_
     rw [Nat.sub_self, grd] at hpg
     have h3 : bstV ms ns ns.length [] < neverC := by rw [hBv]; exact hlt
     refine VC.ret ?_
     exact Exists.intro _ (And.intro (RetV.four Tryz.results69 (ResV.tmp rfl) (ResV.tmp rfl) (ResV.tmp rfl) (ResV.tmp rfl)) (by rw [(bal_4 hf0 h12 h3).1, (bal_4 hf0 h12 h3).2.1, (bal_4 hf0 h12 h3).2.2.1, (bal_4 hf0 h12 h3).2.2.2, hBv, hpg]))
end Go.Proofs.YtaaokimiadfidaaGreatDoor
namespace Go.Proofs.YtaaokimiadfidaaGreatDoor
open Go.RowKit
set_option linter.unusedVariables false
set_option linter.unusedSimpArgs false
theorem lst_y {ms : List Mach} {key : ByteArray} {k : Nat} (h1 : hasK (ms.getD k default) key = true) (h2 : lstE ms key k < 0 ∨ (ms.getD k default).each < lstE ms key k) : lstE ms key (k + 1) = (ms.getD k default).each := by rw [lstE, if_pos ⟨h1, h2⟩]
theorem lst_n {ms : List Mach} {key : ByteArray} {k : Nat} (h : hasK (ms.getD k default) key = false ∨ (0 ≤ lstE ms key k ∧ lstE ms key k ≤ (ms.getD k default).each)) : lstE ms key (k + 1) = lstE ms key k := by
 rw [lstE, if_neg]
 rintro ⟨h1, h2⟩
 rcases h with h | h
 ·rw [h] at h1; cases h1
 ·omega
theorem tdiv_fit {a b : Int} (h0 : 0 ≤ a) (h : 0 < b) : 0 ≤ a.tdiv b ∧ a.tdiv b ≤ a := by
 rw [Int.tdiv_eq_ediv_of_nonneg h0]
 exact ⟨Int.ediv_nonneg h0 (by omega), Int.ediv_le_self _ h0⟩
set_option maxRecDepth 100000 in
set_option maxHeartbeats 8000000 in
theorem line_Bound {ms : List Mach} {ns : List NeedS} (hm : SmallM ms) (hn : SmallN ns) :
  SpecN Tryz.prog 71 [avL ms, avL ns] (fun y => y = .tup [avI (if faultF ms ns = 0 then bndF ms ns else 0), avI (faultF ms ns)]) := by
 refine SpecN.of_VCN Tryz.func71 rfl Tryz.ntmps71 (Nle rfl) fun w A hB => ?_
 have hnew : True := trivial
 refine VC.sr ?_
 refine VO.ma rfl rfl rfl rfl ?_
 refine VO.ma rfl rfl rfl rfl ?_
 refine VO.nil ?_
 refine VC.seq ?_
 refine VC.sr ?_
 refine VO.mv rfl rfl rfl rfl ?_
 refine VO.mv rfl rfl rfl rfl ?_
 refine VO.op rfl (OpE.call rfl hB rfl Tryz.call172 rfl (SpecN.spec (line_fault hm.l hm.k hm.c hm.s hn.l hn.k)) ?_)
 rintro _ rfl
 refine VO.ma rfl rfl rfl rfl ?_
 refine VO.nil ?_
 refine VC.sr ?_
 refine VO.mv rfl rfl rfl rfl ?_
 refine VO.val rfl rfl (OpV.neq rfl rfl rfl) ?_
 refine VO.nil ?_
 refine VC.cond rfl (fun h0b => ?_) (fun h0b => ?_)
 ·have h0 := h0b
  try simp only [qqT, qqF, qqN, qqM, qqL, qqE] at h0
  refine VC.sr ?_
  refine VO.mv rfl rfl rfl rfl ?_
  refine VO.ma rfl rfl rfl rfl ?_
  refine VO.ma rfl rfl rfl rfl ?_
  refine VO.nil ?_
  refine VC.ret ?_
  exact Exists.intro _ (And.intro (RetN.two Tryz.results71 (ResN.v rfl) (ResN.v rfl)) (by rw [if_neg h0]))
 ·have h0 := h0b
  try simp only [qqT, qqF, qqN, qqM, qqL, qqE] at h0
  have hf0 : faultF ms ns = 0 := by omega
  obtain ⟨hmf, hnf⟩ := faultF_0 hf0
  have hM := MnOk.mk' hmf hnf
  have hlen := machF_len hmf
  have hnl := needsF_len hnf
  refine VC.skip ?_
  refine VC.sr ?_
  refine VO.ma rfl rfl rfl rfl ?_
  refine VO.ma rfl rfl rfl rfl ?_
  refine VO.nil ?_
  refine VC.seq ?_
  refine VC.sr ?_
  refine VO.mv rfl rfl rfl rfl ?_
  refine VO.val rfl rfl (OpV.len_im rfl Tryz.underlying102 rfl) ?_
  refine VO.mv rfl rfl rfl rfl ?_
  refine VO.nil ?_
  refine VC.block ?_
  refine VC.loopK [(0, _), (1, _), (22, _), (23, _)] ⟨rfl, rfl, rfl, rfl, trivial⟩ ({q : Nat // q ≤ ms.length}) (fun (iZ : {q : Nat // q ≤ ms.length}) => match iZ with | ⟨q, hq⟩ => [(7, avI (smN (fun k => (ms.getD k default).fixed) q)), (8, avI (mxK (fun k => (ms.getD k default).fixed) q)), (24, avI (q : Int))]) (fun (iZ : {q : Nat // q ≤ ms.length}) => match iZ with | ⟨q, hq⟩ => []) (fun (iZ : {q : Nat // q ≤ ms.length}) => match iZ with | ⟨q, hq⟩ => 0) (fun (iZ : {q : Nat // q ≤ ms.length}) => match iZ with | ⟨q, hq⟩ => ms.length - q) ⟨0, Nat.zero_le _⟩ (Le.mk hB [] ⟨rfl, rfl, rfl, rfl, rfl, rfl, rfl, trivial⟩ rfl rfl (Nat.le_refl _)) ?_
  rintro ⟨q, hq⟩
  show VC _ _ _ _ ⟨[(7, avI (smN (fun k => (ms.getD k default).fixed) q)), (8, avI (mxK (fun k => (ms.getD k default).fixed) q)), (24, avI (q : Int))] ++ [(0, _), (1, _), (22, _), (23, _)], [], 0⟩
  have hb1 := smN_fix hM q
  have hb2 := hM.fix q
  refine VC.sr ?_
  refine VO.val rfl rfl (OpV.lss rfl rfl rfl) ?_
  refine VO.nil ?_
  refine VC.seq ?_
  refine VC.cond rfl (fun aH1b => ?_) (fun aH1b => ?_)
  ·have aH1 := aH1b
   try simp only [qqT, qqF, qqN, qqM, qqL, qqE] at aH1
   refine VC.skip ?_
   refine VC.seq ?_
   refine VC.block ?_
   refine VC.sr ?_
   refine VO.val rfl rfl (OpV.indexAddr_E rfl Tryz.underlying102 Tryz.sizeOf128 rfl rfl rfl (by omega)) ?_
   refine VO.val rfl rfl (OpV.loadK_at rfl hB OutW.no Tryz.isAgg128 Tryz.sizeOf128 rfl rfl) ?_
   refine VO.op rfl (OpE.alloc rfl hB rfl Tryz.zeroValue128 rfl ?_)
   intro g10
   refine VO.op rfl (OpE.store (i := 0) rfl hB rfl Tryz.sizeOf128 rfl rfl rfl rfl rfl rfl (Nle rfl) trivial ?_)
   refine VO.nil ?_
   refine VC.sr ?_
   refine VO.mv rfl rfl rfl rfl ?_
   refine VO.val rfl rfl (OpV.fieldAddrO 2 rfl Tryz.underlying128 rfl rfl Tryz.sizeOf3 rfl) ?_
   refine VO.val rfl rfl (OpV.load_own (i := 0) rfl hB Tryz.isAgg3 rfl rfl rfl (fun h => h)) ?_
   refine VO.val rfl rfl (OpV.add rfl rfl rfl (by unfold fits; omega)) ?_
   refine VO.ma rfl rfl rfl rfl ?_
   refine VO.nil ?_
   refine VC.region ?_
   refine VO.mv rfl rfl rfl rfl ?_
   refine VO.val rfl rfl (OpV.fieldAddrO 2 rfl Tryz.underlying128 rfl rfl Tryz.sizeOf3 rfl) ?_
   refine VO.val rfl rfl (OpV.load_own (i := 0) rfl hB Tryz.isAgg3 rfl rfl rfl (fun h => h)) ?_
   refine VO.val rfl rfl (OpV.max2 rfl rfl rfl) ?_
   refine VO.ma rfl rfl rfl rfl ?_
   refine VO.nil ?_
   refine VC.region ?_
   refine VO.val rfl rfl (OpV.add rfl rfl rfl (by unfold fits; omega)) ?_
   refine VO.mv rfl rfl rfl rfl ?_
   refine VO.nil ?_
   exact Exists.intro (⟨q + 1, by omega⟩) (And.intro (Le.mk hB [] ⟨rfl, rfl, rfl, rfl, rfl, rfl, rfl, trivial⟩ rfl rfl (Nat.le_refl _)) (by first | omega | (show _ < _; omega) | (simp only []; omega)))
  ·have aH1 := aH1b
   try simp only [qqT, qqF, qqN, qqM, qqL, qqE] at aH1
   obtain rfl : q = ms.length := by omega
   have hb3 := mxK_fix hM ms.length
   refine VC.exit ?_
   refine VC.seq ?_
   refine VC.sr ?_
   refine VO.mv rfl rfl rfl rfl ?_
   refine VO.val rfl rfl (OpV.len_im rfl Tryz.underlying77 rfl) ?_
   refine VO.mv rfl rfl rfl rfl ?_
   refine VO.nil ?_
   refine VC.block ?_
   refine VC.loopK [(0, _), (8, _), (37, _), (38, _)] ⟨rfl, rfl, rfl, rfl, trivial⟩ ({r : Nat // r ≤ ns.length}) (fun (iZ : {r : Nat // r ≤ ns.length}) => match iZ with | ⟨r, hq1⟩ => [(7, avI (bndS ms ns r)), (39, avI (r : Int))]) (fun (iZ : {r : Nat // r ≤ ns.length}) => match iZ with | ⟨r, hq1⟩ => []) (fun (iZ : {r : Nat // r ≤ ns.length}) => match iZ with | ⟨r, hq1⟩ => 0) (fun (iZ : {r : Nat // r ≤ ns.length}) => match iZ with | ⟨r, hq1⟩ => ns.length - r) ⟨0, Nat.zero_le _⟩ (Le.mk hB [] ⟨rfl, rfl, rfl, rfl, rfl, rfl, trivial⟩ rfl rfl (Nat.le_refl _)) ?_
   rintro ⟨r, hq1⟩
   show VC _ _ _ _ ⟨[(7, avI (bndS ms ns r)), (39, avI (r : Int))] ++ [(0, _), (8, _), (37, _), (38, _)], [], 0⟩
   have hc1 := bndS_in hM r
   refine VC.sr ?_
   refine VO.val rfl rfl (OpV.lss rfl rfl rfl) ?_
   refine VO.nil ?_
   refine VC.seq ?_
   refine VC.cond rfl (fun aH2b => ?_) (fun aH2b => ?_)
   ·have aH2 := aH2b
    try simp only [qqT, qqF, qqN, qqM, qqL, qqE] at aH2
    refine VC.skip ?_
    refine VC.seq ?_
    refine VC.block ?_
    refine VC.sr ?_
    refine VO.val rfl rfl (OpV.indexAddr_E rfl Tryz.underlying77 Tryz.sizeOf96 rfl rfl rfl (by omega)) ?_
    refine VO.val rfl rfl (OpV.loadK_at rfl hB OutW.no Tryz.isAgg96 Tryz.sizeOf96 rfl rfl) ?_
    refine VO.op rfl (OpE.alloc rfl hB rfl Tryz.zeroValue96 rfl ?_)
    intro g12
    refine VO.op rfl (OpE.store (i := 0) rfl hB rfl Tryz.sizeOf96 rfl rfl rfl rfl rfl rfl (Nle rfl) trivial ?_)
    refine VO.nil ?_
    refine VC.sr ?_
    refine VO.ma rfl rfl rfl rfl ?_
    refine VO.nil ?_
    refine VC.seq ?_
    refine VC.sr ?_
    refine VO.mv rfl rfl rfl rfl ?_
    refine VO.val rfl rfl (OpV.len_im rfl Tryz.underlying102 rfl) ?_
    refine VO.mv rfl rfl rfl rfl ?_
    refine VO.nil ?_
    refine VC.block ?_
    refine VC.loopK [(0, _), (7, _), (8, _), (12, _), (37, _), (38, _), (39, _), (43, _), (44, _)] ⟨rfl, rfl, rfl, rfl, rfl, rfl, rfl, rfl, rfl, trivial⟩ ({k : Nat // k ≤ ms.length}) (fun (iZ : {k : Nat // k ≤ ms.length}) => match iZ with | ⟨k, hq2⟩ => [(13, avI (lstE ms (ns.getD r default).key k)), (45, avI (k : Int))]) (fun (iZ : {k : Nat // k ≤ ms.length}) => match iZ with | ⟨k, hq2⟩ => [.box g12 ⟨[avS (ns.getD r default).key, avI (ns.getD r default).count], 96, 2⟩]) (fun (iZ : {k : Nat // k ≤ ms.length}) => match iZ with | ⟨k, hq2⟩ => 0) (fun (iZ : {k : Nat // k ≤ ms.length}) => match iZ with | ⟨k, hq2⟩ => ms.length - k) ⟨0, Nat.zero_le _⟩ (Le.mk hB [0] ⟨rfl, rfl, rfl, rfl, rfl, rfl, rfl, rfl, rfl, rfl, rfl, trivial⟩ rfl rfl (Nat.le_refl _)) ?_
    rintro ⟨k, hq2⟩
    show VC _ _ _ _ ⟨[(13, avI (lstE ms (ns.getD r default).key k)), (45, avI (k : Int))] ++ [(0, _), (7, _), (8, _), (12, _), (37, _), (38, _), (39, _), (43, _), (44, _)], [.box g12 ⟨[avS (ns.getD r default).key, avI (ns.getD r default).count], 96, 2⟩], 0⟩
    have hl1 := lstE_each hM (key := (ns.getD r default).key) k
    refine VC.sr ?_
    refine VO.val rfl rfl (OpV.lss rfl rfl rfl) ?_
    refine VO.nil ?_
    refine VC.seq ?_
    refine VC.cond rfl (fun aH3b => ?_) (fun aH3b => ?_)
    ·have aH3 := aH3b
     try simp only [qqT, qqF, qqN, qqM, qqL, qqE] at aH3
     refine VC.skip ?_
     refine VC.seq ?_
     refine VC.block ?_
     refine VC.sr ?_
     refine VO.val rfl rfl (OpV.indexAddr_E rfl Tryz.underlying102 Tryz.sizeOf128 rfl rfl rfl (by omega)) ?_
     refine VO.val rfl rfl (OpV.loadK_at rfl hB OutW.no Tryz.isAgg128 Tryz.sizeOf128 rfl rfl) ?_
     refine VO.op rfl (OpE.alloc rfl hB rfl Tryz.zeroValue128 rfl ?_)
     intro g15
     refine VO.op rfl (OpE.store (i := 1) rfl hB rfl Tryz.sizeOf128 rfl rfl rfl rfl rfl rfl (Nle rfl) trivial ?_)
     refine VO.nil ?_
     refine VC.sr ?_
     refine VO.val rfl rfl (OpV.loadK_own (i := 1) rfl hB Tryz.isAgg128 Tryz.sizeOf128 rfl rfl rfl (fun h => h)) ?_
     refine VO.val rfl rfl (OpV.fieldAddrO 0 rfl Tryz.underlying96 rfl rfl Tryz.sizeOf9 rfl) ?_
     refine VO.val rfl rfl (OpV.load_own (i := 0) rfl hB Tryz.isAgg9 rfl rfl rfl (fun h => h)) ?_
     refine VO.op rfl (OpE.call rfl hB rfl Tryz.call179 rfl (SpecN.spec (line_can (by have := canF_keys (machF_each hmf (i := k) (by omega)).2; omega) (canF_sort (machF_each hmf (by omega)).2))) ?_)
     rintro _ rfl
     refine VO.mv rfl rfl rfl rfl ?_
     refine VO.opG rfl rfl rfl rfl (fun aK4b => ?_) (fun aK4b => ?_)
     ·replace aK4b : _ = true := aK4b
      have aK4 := aK4b
      try simp only [qqT, qqF, qqN, qqM, qqL, qqE] at aK4
      refine OpE.val (W := NoB) (OpV.move (.inl rfl) rfl) rfl ?_
      refine VO.opY rfl rfl rfl rfl aK4b ?_
      refine OpE.val (W := NoB) (OpV.lss rfl rfl rfl) rfl ?_
      refine VO.opY rfl rfl rfl rfl aK4b ?_
      refine OpE.val (W := NoB) (OpV.move (.inl rfl) rfl) rfl ?_
      refine VO.opG rfl rfl rfl rfl (fun aK5b => ?_) (fun aK5b => ?_)
      ·replace aK5b : _ = false := aK5b
       have aK5 := aK5b
       try simp only [qqT, qqF, qqN, qqM, qqL, qqE] at aK5
       refine OpE.val (W := NoB) (OpV.fieldAddrO 1 rfl Tryz.underlying128 rfl rfl Tryz.sizeOf3 rfl) rfl ?_
       refine VO.opY rfl rfl rfl rfl aK5b ?_
       refine OpE.val (W := NoB) (OpV.load_own (i := 1) rfl hB Tryz.isAgg3 rfl rfl rfl (fun h => h)) rfl ?_
       refine VO.opY rfl rfl rfl rfl aK5b ?_
       refine OpE.val (W := NoB) (OpV.move (.inl rfl) rfl) rfl ?_
       refine VO.opY rfl rfl rfl rfl aK5b ?_
       refine OpE.val (W := NoB) (OpV.lss rfl rfl rfl) rfl ?_
       refine VO.opY rfl rfl rfl rfl aK4b ?_
       refine OpE.val (W := NoB) (OpV.pickF rfl rfl rfl rfl aK5b) rfl ?_
       refine VO.val rfl rfl (OpV.pickT rfl rfl rfl rfl aK4b) ?_
       refine VO.nil ?_
       refine VC.cond rfl (fun aH6b => ?_) (fun aH6b => ?_)
       ·have aH6 := aH6b
        try simp only [qqT, qqF, qqN, qqM, qqL, qqE] at aH6
        refine VC.region ?_
        refine VO.val rfl rfl (OpV.fieldAddrO 1 rfl Tryz.underlying128 rfl rfl Tryz.sizeOf3 rfl) ?_
        refine VO.val rfl rfl (OpV.load_own (i := 1) rfl hB Tryz.isAgg3 rfl rfl rfl (fun h => h)) ?_
        refine VO.ma rfl rfl rfl rfl ?_
        refine VO.nil ?_
        refine VC.region ?_
        refine VO.val rfl rfl (OpV.add rfl rfl rfl (by unfold fits; omega)) ?_
        refine VO.mv rfl rfl rfl rfl ?_
        refine VO.nil ?_
        exact Exists.intro (⟨k + 1, by omega⟩) (And.intro (Le.mk hB [0] ⟨(by dsimp only; first | (rw [lst_y (by assumption) (by first | exact .inl (by omega) | exact .inr (by omega))]; rfl) | (rw [lst_n (by first | exact .inl (by assumption) | exact .inr (by omega))]; rfl)), rfl, rfl, rfl, rfl, rfl, rfl, rfl, rfl, rfl, rfl, trivial⟩ rfl rfl (Nat.le_refl _)) (by first | omega | (show _ < _; omega) | (simp only []; omega)))
       ·have aH6 := aH6b
        try simp only [qqT, qqF, qqN, qqM, qqL, qqE] at aH6
        refine VC.skip ?_
        refine VC.region ?_
        refine VO.val rfl rfl (OpV.add rfl rfl rfl (by unfold fits; omega)) ?_
        refine VO.mv rfl rfl rfl rfl ?_
        refine VO.nil ?_
        exact Exists.intro (⟨k + 1, by omega⟩) (And.intro (Le.mk hB [0] ⟨(by dsimp only; first | (rw [lst_y (by assumption) (by first | exact .inl (by omega) | exact .inr (by omega))]; rfl) | (rw [lst_n (by first | exact .inl (by assumption) | exact .inr (by omega))]; rfl)), rfl, rfl, rfl, rfl, rfl, rfl, rfl, rfl, rfl, rfl, trivial⟩ rfl rfl (Nat.le_refl _)) (by first | omega | (show _ < _; omega) | (simp only []; omega)))
      ·replace aK5b : _ = true := aK5b
       have aK5 := aK5b
       try simp only [qqT, qqF, qqN, qqM, qqL, qqE] at aK5
       refine VO.opX rfl rfl rfl rfl aK5b ?_
       refine VO.opX rfl rfl rfl rfl aK5b ?_
       refine VO.opX rfl rfl rfl rfl aK5b ?_
       refine VO.opY rfl rfl rfl rfl aK4b ?_
       refine OpE.val (W := NoB) (OpV.pickT rfl rfl rfl rfl aK5b) rfl ?_
       refine VO.val rfl rfl (OpV.pickT rfl rfl rfl rfl aK4b) ?_
       refine VO.nil ?_
       refine VC.condT rfl rfl ?_
       refine VC.region ?_
       refine VO.val rfl rfl (OpV.fieldAddrO 1 rfl Tryz.underlying128 rfl rfl Tryz.sizeOf3 rfl) ?_
       refine VO.val rfl rfl (OpV.load_own (i := 1) rfl hB Tryz.isAgg3 rfl rfl rfl (fun h => h)) ?_
       refine VO.ma rfl rfl rfl rfl ?_
       refine VO.nil ?_
       refine VC.region ?_
       refine VO.val rfl rfl (OpV.add rfl rfl rfl (by unfold fits; omega)) ?_
       refine VO.mv rfl rfl rfl rfl ?_
       refine VO.nil ?_
       exact Exists.intro (⟨k + 1, by omega⟩) (And.intro (Le.mk hB [0] ⟨(by dsimp only; first | (rw [lst_y (by assumption) (by first | exact .inl (by omega) | exact .inr (by omega))]; rfl) | (rw [lst_n (by first | exact .inl (by assumption) | exact .inr (by omega))]; rfl)), rfl, rfl, rfl, rfl, rfl, rfl, rfl, rfl, rfl, rfl, trivial⟩ rfl rfl (Nat.le_refl _)) (by first | omega | (show _ < _; omega) | (simp only []; omega)))
     ·replace aK4b : _ = false := aK4b
      have aK4 := aK4b
      try simp only [qqT, qqF, qqN, qqM, qqL, qqE] at aK4
      refine VO.opX rfl rfl rfl rfl aK4b ?_
      refine VO.opX rfl rfl rfl rfl aK4b ?_
      refine VO.opU rfl rfl rfl rfl ?_
      refine VO.opU rfl rfl rfl rfl ?_
      refine VO.opU rfl rfl rfl rfl ?_
      refine VO.opU rfl rfl rfl rfl ?_
      refine VO.opX rfl rfl rfl rfl aK4b ?_
      refine VO.val rfl rfl (OpV.pickF rfl rfl rfl rfl aK4b) ?_
      refine VO.nil ?_
      refine VC.condF rfl rfl ?_
      refine VC.skip ?_
      refine VC.region ?_
      refine VO.val rfl rfl (OpV.add rfl rfl rfl (by unfold fits; omega)) ?_
      refine VO.mv rfl rfl rfl rfl ?_
      refine VO.nil ?_
      exact Exists.intro (⟨k + 1, by omega⟩) (And.intro (Le.mk hB [0] ⟨(by dsimp only; first | (rw [lst_y (by assumption) (by first | exact .inl (by omega) | exact .inr (by omega))]; rfl) | (rw [lst_n (by first | exact .inl (by assumption) | exact .inr (by omega))]; rfl)), rfl, rfl, rfl, rfl, rfl, rfl, rfl, rfl, rfl, rfl, trivial⟩ rfl rfl (Nat.le_refl _)) (by first | omega | (show _ < _; omega) | (simp only []; omega)))
    ·have aH3 := aH3b
     try simp only [qqT, qqF, qqN, qqM, qqL, qqE] at aH3
     obtain rfl : k = ms.length := by omega
     have hl2 := lstE_each hM (key := (ns.getD r default).key) ms.length
     have hl3 := mul_in2 (a := max (lstE ms (ns.getD r default).key ms.length) 0) (by omega) (hM.cnt r)
     refine VC.exit ?_
     refine VC.region ?_
     refine VO.mv rfl rfl rfl rfl ?_
     refine VO.mv rfl rfl rfl rfl ?_
     refine VO.val rfl rfl (OpV.max2 rfl rfl rfl) ?_
     refine VO.val rfl rfl (OpV.fieldAddrO 1 rfl Tryz.underlying96 rfl rfl Tryz.sizeOf3 rfl) ?_
     refine VO.val rfl rfl (OpV.load_own (i := 0) rfl hB Tryz.isAgg3 rfl rfl rfl (fun h => h)) ?_
     refine VO.val rfl rfl (OpV.mul rfl rfl rfl (by unfold fits; omega)) ?_
     refine VO.val rfl rfl (OpV.add rfl rfl rfl (by unfold fits; omega)) ?_
     refine VO.ma rfl rfl rfl rfl ?_
     refine VO.nil ?_
     refine VC.region ?_
     refine VO.val rfl rfl (OpV.add rfl rfl rfl (by unfold fits; omega)) ?_
     refine VO.mv rfl rfl rfl rfl ?_
     refine VO.nil ?_
     exact Exists.intro (⟨r + 1, by omega⟩) (And.intro (Le.mk hB [] ⟨rfl, rfl, rfl, rfl, rfl, rfl, trivial⟩ rfl rfl (Nat.le_refl _)) (by first | omega | (show _ < _; omega) | (simp only []; omega)))
   ·have aH2 := aH2b
    try simp only [qqT, qqF, qqN, qqM, qqL, qqE] at aH2
    obtain rfl : r = ns.length := by omega
    have htd := tdiv_fit (a := bndS ms ns ns.length + ms.length - 1) (b := ms.length) (by omega) (by omega)
    refine VC.exit ?_
    refine VC.sr ?_
    refine VO.mv rfl rfl rfl rfl ?_
    refine VO.mv rfl rfl rfl rfl ?_
    refine VO.mv rfl rfl rfl rfl ?_
    refine VO.val rfl rfl (OpV.len_im rfl Tryz.underlying102 rfl) ?_
    refine VO.val rfl rfl (OpV.add rfl rfl rfl (by unfold fits; omega)) ?_
    refine VO.val rfl rfl (OpV.sub rfl rfl rfl (by unfold fits; omega)) ?_
    refine VO.mv rfl rfl rfl rfl ?_
    refine VO.val rfl rfl (OpV.len_im rfl Tryz.underlying102 rfl) ?_
    refine VO.val rfl rfl (OpV.quo rfl rfl rfl (by omega) (by unfold fits; omega)) ?_
    refine VO.val rfl rfl (OpV.max2 rfl rfl rfl) ?_
    refine VO.ma rfl rfl rfl rfl ?_
    refine VO.ma rfl rfl rfl rfl ?_
    refine VO.nil ?_
    refine VC.ret ?_
    exact Exists.intro _ (And.intro (RetN.two Tryz.results71 (ResN.v rfl) (ResN.v rfl)) (by rw [if_pos hf0, hf0]; rfl))
set_option maxRecDepth 100000 in
theorem slices_IndexFunc_machI {xs : List Mach} {F : FuncId} {cs : List AV} {p : Mach → Bool} (hl : xs.length ≤ 1000000000) (hcall : ∀ us w, (callFunc F us).run Tryz.prog w = .ok (.enter F us) w) (hF : ∀ i, i < xs.length → Spec Tryz.prog F ([avT (xs.getD i default)] ++ cs) (fun y => y = avB (p (xs.getD i default)))) :
  SpecN Tryz.prog 281 [avL xs, .fn F cs] (fun y => y = avI (fidx p xs)) := by
 refine SpecN.of_VCN Tryz.func281 rfl Tryz.ntmps281 (Nle rfl) fun w A hB => ?_
 have hnew : True := trivial
 refine VC.sr ?_
 refine VO.ma rfl rfl rfl rfl ?_
 refine VO.nil ?_
 refine VC.seq ?_
 refine VC.sr ?_
 refine VO.mv rfl rfl rfl rfl ?_
 refine VO.val rfl rfl (OpV.len_im rfl Tryz.underlying102 rfl) ?_
 refine VO.mv rfl rfl rfl rfl ?_
 refine VO.nil ?_
 refine VC.block ?_
 refine VC.loopK [(0, _), (1, _), (7, _)] ⟨rfl, rfl, rfl, trivial⟩ ({q : Nat // q ≤ xs.length ∧ ∀ j, j < q → p (xs.getD j default) = false}) (fun (iZ : {q : Nat // q ≤ xs.length ∧ ∀ j, j < q → p (xs.getD j default) = false}) => match iZ with | ⟨q, hq, hn⟩ => [(8, avI (q : Int))]) (fun (iZ : {q : Nat // q ≤ xs.length ∧ ∀ j, j < q → p (xs.getD j default) = false}) => match iZ with | ⟨q, hq, hn⟩ => []) (fun (iZ : {q : Nat // q ≤ xs.length ∧ ∀ j, j < q → p (xs.getD j default) = false}) => match iZ with | ⟨q, hq, hn⟩ => 0) (fun (iZ : {q : Nat // q ≤ xs.length ∧ ∀ j, j < q → p (xs.getD j default) = false}) => match iZ with | ⟨q, hq, hn⟩ => xs.length - q) ⟨0, Nat.zero_le _, fun j hj => absurd hj (Nat.not_lt_zero j)⟩ (Le.mk hB [] ⟨rfl, rfl, rfl, rfl, trivial⟩ rfl rfl (Nat.le_refl _)) ?_
 rintro ⟨q, hq, hn⟩
 show VC _ _ _ _ ⟨[(8, avI (q : Int))] ++ [(0, _), (1, _), (7, _)], [], 0⟩
 refine VC.sr ?_
 refine VO.val rfl rfl (OpV.lss rfl rfl rfl) ?_
 refine VO.nil ?_
 refine VC.seq ?_
 refine VC.cond rfl (fun aH1b => ?_) (fun aH1b => ?_)
 ·have aH1 := aH1b
  try simp only [qqT, qqF, qqN, qqM, qqL, qqE] at aH1
  refine VC.skip ?_
  refine VC.seq ?_
  refine VC.block ?_
  refine VC.sr ?_
  refine VO.mv rfl rfl rfl rfl ?_
  refine VO.ma rfl rfl rfl rfl ?_
  refine VO.nil ?_
  refine VC.sr ?_
  refine VO.mv rfl rfl rfl rfl ?_
  refine VO.mv rfl rfl rfl rfl ?_
  refine VO.mv rfl rfl rfl rfl ?_
  refine VO.val rfl rfl (OpV.indexAddr_E rfl Tryz.underlying102 Tryz.sizeOf128 rfl rfl rfl (by omega)) ?_
  refine VO.val rfl rfl (OpV.loadK_at rfl hB OutW.no Tryz.isAgg128 Tryz.sizeOf128 rfl rfl) ?_
  refine VO.op rfl (OpE.callF rfl hB rfl hcall rfl rfl (hF q (by omega)) ?_)
  rintro _ rfl
  refine VO.nil ?_
  refine VC.cond rfl (fun aH2b => ?_) (fun aH2b => ?_)
  ·have aH2 := aH2b
   try simp only [qqT, qqF, qqN, qqM, qqL, qqE] at aH2
   refine VC.sr ?_
   refine VO.mv rfl rfl rfl rfl ?_
   refine VO.ma rfl rfl rfl rfl ?_
   refine VO.nil ?_
   refine VC.ret ?_
   exact Exists.intro _ (And.intro (RetN.one Tryz.results281 (ResN.v rfl)) (by first | (rw [fidx_found (d := default) (q := q) (by omega) hn (by assumption)]) | (rw [fidx_none (d := default) (fun j hj => hn j (by omega))])))
  ·have aH2 := aH2b
   try simp only [qqT, qqF, qqN, qqM, qqL, qqE] at aH2
   refine VC.skip ?_
   refine VC.region ?_
   refine VO.val rfl rfl (OpV.add rfl rfl rfl (by unfold fits; omega)) ?_
   refine VO.mv rfl rfl rfl rfl ?_
   refine VO.nil ?_
   exact Exists.intro (⟨q + 1, by omega, lt_succ_cases hn ((by assumption))⟩) (And.intro (Le.mk hB [] ⟨rfl, rfl, rfl, rfl, trivial⟩ rfl rfl (Nat.le_refl _)) (by first | omega | (show _ < _; omega) | (simp only []; omega)))
 ·have aH1 := aH1b
  try simp only [qqT, qqF, qqN, qqM, qqL, qqE] at aH1
  refine VC.exit ?_
  refine VC.sr ?_
  refine VO.ma rfl rfl rfl rfl ?_
  refine VO.nil ?_
  refine VC.ret ?_
  exact Exists.intro _ (And.intro (RetN.one Tryz.results281 (ResN.v rfl)) (by first | (rw [fidx_found (d := default) (q := q) (by omega) hn (by assumption)]) | (rw [fidx_none (d := default) (fun j hj => hn j (by omega))])))
set_option maxRecDepth 100000 in
theorem slices_ContainsFunc_machI {xs : List Mach} {F : FuncId} {cs : List AV} {p : Mach → Bool} (hl : xs.length ≤ 1000000000) (hcall : ∀ us w, (callFunc F us).run Tryz.prog w = .ok (.enter F us) w) (hF : ∀ i, i < xs.length → Spec Tryz.prog F ([avT (xs.getD i default)] ++ cs) (fun y => y = avB (p (xs.getD i default)))) :
  SpecN Tryz.prog 180 [avL xs, .fn F cs] (fun y => y = avB (xs.any p)) := by
 refine SpecN.of_VCN Tryz.func180 rfl Tryz.ntmps180 (Nle rfl) fun w A hB => ?_
 have hnew : True := trivial
 refine VC.sr ?_
 refine VO.ma rfl rfl rfl rfl ?_
 refine VO.nil ?_
 refine VC.sr ?_
 refine VO.mv rfl rfl rfl rfl ?_
 refine VO.mv rfl rfl rfl rfl ?_
 refine VO.op rfl (OpE.call rfl hB rfl Tryz.call281 rfl (SpecN.spec (slices_IndexFunc_machI hl hcall hF)) ?_)
 rintro _ rfl
 refine VO.val rfl rfl (OpV.geq rfl rfl rfl) ?_
 refine VO.ma rfl rfl rfl rfl ?_
 refine VO.nil ?_
 refine VC.ret ?_
 exact Exists.intro _ (And.intro (RetN.one Tryz.results180 (ResN.v rfl)) (by rw [← fidx_any]))
set_option maxRecDepth 100000 in
theorem line_Nobody1 {x : Mach} {n : NeedS} (hl : x.can.length ≤ 1000000000) (hs : SortS x.can) :
  SpecN Tryz.prog 181 [avT x, .at_ 2 (Sxc.cell n)] (fun y => y = avB (hasK x n.key)) := by
 refine SpecN.of_VCN Tryz.func181 rfl Tryz.ntmps181 (Nle rfl) fun w A hB => ?_
 have hnew : True := trivial
 refine VC.sr ?_
 refine VO.op rfl (OpE.box rfl hB rfl rfl rfl ?_)
 intro g2
 refine VO.ma rfl rfl rfl rfl ?_
 refine VO.nil ?_
 refine VC.sr ?_
 refine VO.val rfl rfl (OpV.loadK_own (i := 0) rfl hB Tryz.isAgg128 Tryz.sizeOf128 rfl rfl rfl (fun h => h)) ?_
 refine VO.val rfl rfl (OpV.fieldAddr_atO 0 rfl Tryz.underlying96 rfl rfl Tryz.sizeOf9 rfl rfl) ?_
 refine VO.val rfl rfl (OpV.load_at rfl hB OutW.no Tryz.isAgg9 rfl rfl) ?_
 refine VO.op rfl (OpE.call rfl hB rfl Tryz.call179 rfl (SpecN.spec (line_can hl hs)) ?_)
 rintro _ rfl
 refine VO.ma rfl rfl rfl rfl ?_
 refine VO.nil ?_
 refine VC.ret ?_
 exact Exists.intro _ (And.intro (RetN.one Tryz.results181 (ResN.v rfl)) (rfl))
set_option maxRecDepth 100000 in
set_option maxHeartbeats 8000000 in
theorem line_Nobody {ms : List Mach} {ns : List NeedS} (hm : SmallM ms) (hn : SmallN ns) :
  SpecN Tryz.prog 72 [avL ms, avL ns] (fun y => y = .tup [avStrs (if faultF ms ns = 0 then nobL ms ns else []), avI (faultF ms ns)]) := by
 refine SpecN.of_VCN Tryz.func72 rfl Tryz.ntmps72 (Nle rfl) fun w A hB => ?_
 have hnew : True := trivial
 refine VC.sr ?_
 refine VO.ma rfl rfl rfl rfl ?_
 refine VO.ma rfl rfl rfl rfl ?_
 refine VO.nil ?_
 refine VC.seq ?_
 refine VC.sr ?_
 refine VO.mv rfl rfl rfl rfl ?_
 refine VO.mv rfl rfl rfl rfl ?_
 refine VO.op rfl (OpE.call rfl hB rfl Tryz.call172 rfl (SpecN.spec (line_fault hm.l hm.k hm.c hm.s hn.l hn.k)) ?_)
 rintro _ rfl
 refine VO.ma rfl rfl rfl rfl ?_
 refine VO.nil ?_
 refine VC.sr ?_
 refine VO.mv rfl rfl rfl rfl ?_
 refine VO.val rfl rfl (OpV.neq rfl rfl rfl) ?_
 refine VO.nil ?_
 refine VC.cond rfl (fun h0b => ?_) (fun h0b => ?_)
 ·have h0 := h0b
  try simp only [qqT, qqF, qqN, qqM, qqL, qqE] at h0
  refine VC.sr ?_
  refine VO.mv rfl rfl rfl rfl ?_
  refine VO.ma rfl rfl rfl rfl ?_
  refine VO.ma rfl rfl rfl rfl ?_
  refine VO.nil ?_
  refine VC.ret ?_
  exact Exists.intro _ (And.intro (RetN.two Tryz.results72 (ResN.nilE rfl) (ResN.v rfl)) (by rw [if_neg h0]; rfl))
 ·have h0 := h0b
  try simp only [qqT, qqF, qqN, qqM, qqL, qqE] at h0
  have hf0 : faultF ms ns = 0 := by omega
  obtain ⟨hmf, hnf⟩ := faultF_0 hf0
  have hlen := machF_len hmf
  have hnl := needsF_len hnf
  refine VC.skip ?_
  refine VC.sr ?_
  refine VO.ma rfl rfl rfl rfl ?_
  refine VO.nil ?_
  refine VC.seq ?_
  refine VC.sr ?_
  refine VO.mv rfl rfl rfl rfl ?_
  refine VO.val rfl rfl (OpV.len_im rfl Tryz.underlying77 rfl) ?_
  refine VO.mv rfl rfl rfl rfl ?_
  refine VO.nil ?_
  refine VC.block ?_
  refine VC.le _ (Le.nilRow 1 9) ?_
  refine VC.loopK [(0, _), (16, _), (17, _)] ⟨rfl, rfl, rfl, trivial⟩ ({zz : Value × Nat // zz.2 ≤ ns.length}) (fun (iZ : {zz : Value × Nat // zz.2 ≤ ns.length}) => match iZ with | ⟨⟨u, q⟩, hq⟩ => [(7, .v u), (18, avI (q : Int))]) (fun (iZ : {zz : Value × Nat // zz.2 ≤ ns.length}) => match iZ with | ⟨⟨u, q⟩, hq⟩ => [.row u (nobL ms (ns.take q)).length 1 (strsL (nobL ms (ns.take q))) 9]) (fun (iZ : {zz : Value × Nat // zz.2 ≤ ns.length}) => match iZ with | ⟨⟨u, q⟩, hq⟩ => 0) (fun (iZ : {zz : Value × Nat // zz.2 ≤ ns.length}) => match iZ with | ⟨⟨u, q⟩, hq⟩ => ns.length - q) ⟨(.slice none 0 0, 0), Nat.zero_le _⟩ (Le.mk hB [0] ⟨rfl, rfl, rfl, rfl, rfl, trivial⟩ rfl rfl (Nat.le_refl _)) ?_
  rintro ⟨⟨u, q⟩, hq⟩
  show VC _ _ _ _ ⟨[(7, .v u), (18, avI (q : Int))] ++ [(0, _), (16, _), (17, _)], [.row u (nobL ms (ns.take q)).length 1 (strsL (nobL ms (ns.take q))) 9], 0⟩
  simp only at hq
  have hno := nobL_len (ms := ms) (ns := ns.take q)
  have hno2 : (ns.take q).length ≤ q := by rw [List.length_take]; omega
  refine VC.sr ?_
  refine VO.val rfl rfl (OpV.lss rfl rfl rfl) ?_
  refine VO.nil ?_
  refine VC.seq ?_
  refine VC.cond rfl (fun aH1b => ?_) (fun aH1b => ?_)
  ·have aH1 := aH1b
   try simp only [qqT, qqF, qqN, qqM, qqL, qqE] at aH1
   refine VC.skip ?_
   refine VC.seq ?_
   refine VC.block ?_
   refine VC.sr ?_
   refine VO.val rfl rfl (OpV.indexAddr_E rfl Tryz.underlying77 Tryz.sizeOf96 rfl rfl rfl (by omega)) ?_
   refine VO.val rfl rfl (OpV.loadK_at rfl hB OutW.no Tryz.isAgg96 Tryz.sizeOf96 rfl rfl) ?_
   refine VO.op rfl (OpE.alloc rfl hB rfl Tryz.zeroValue96 rfl ?_)
   intro g9
   refine VO.op rfl (OpE.store (i := 1) rfl hB rfl Tryz.sizeOf96 rfl rfl rfl rfl rfl rfl (Nle rfl) trivial ?_)
   refine VO.nil ?_
   refine VC.sr ?_
   refine VO.mv rfl rfl rfl rfl ?_
   refine VO.val rfl rfl (OpV.makeFunc1 rfl rfl) ?_
   refine VO.op rfl (OpE.callL rfl hB rfl Tryz.call180 (slices_ContainsFunc_machI (p := fun x => hasK x (ns.getD q default).key) (by omega) Tryz.call181 (fun i hi => (line_Nobody1 (by have := canF_keys (machF_each hmf hi).2; omega) (canF_sort (machF_each hmf hi).2)).spec)) (ArgsP.cons (ArgP.ev rfl) (ArgsP.cons (ArgP.fn1 (i := 1) (m := 2) (f := Sxc.cell (ns.getD q default)) rfl rfl (Nle rfl) (lt2 rfl rfl)) (ArgsP.nil))) ?_)
   rintro _ rfl
   refine VO.val rfl rfl (OpV.not rfl rfl) ?_
   refine VO.nil ?_
   refine VC.cond rfl (fun h2b => ?_) (fun h2b => ?_)
   ·have h2 := h2b
    try simp only [qqT, qqF, qqN, qqM, qqL, qqE] at h2
    refine VC.region ?_
    refine VO.mv rfl rfl rfl rfl ?_
    refine VO.val rfl rfl (OpV.fieldAddrO 0 rfl Tryz.underlying96 rfl rfl Tryz.sizeOf9 rfl) ?_
    refine VO.val rfl rfl (OpV.load_own (i := 1) rfl hB Tryz.isAgg9 rfl rfl rfl (fun h => h)) ?_
    refine VO.op rfl (OpE.buildSlice (zc := #[.string ⟨#[]⟩]) rfl hB rfl Tryz.underlying67 Tryz.sizeOf9 Tryz.zeroValue9 (by decide) (by decide) (by kernel_rfl) rfl rfl ?_)
    refine VO.op rfl (OpE.append1 (i := 0) rfl hB rfl Tryz.underlying67 (infoOf Tryz.t9 1 (by kernel_rfl) rfl rfl) rfl (by decide) (by decide) rfl rfl rfl rfl (strsL_snoc _ _) (by omega) (fun _ _ => trivial) ?_)
    intro u30
    refine VO.ma rfl rfl rfl rfl ?_
    refine VO.nil ?_
    refine VC.region ?_
    refine VO.val rfl rfl (OpV.add rfl rfl rfl (by unfold fits; omega)) ?_
    refine VO.mv rfl rfl rfl rfl ?_
    refine VO.nil ?_
    exact Exists.intro (⟨(u30, q + 1), by show _ ≤ _; omega⟩) (And.intro (Le.mk hB [0] ⟨rfl, rfl, rfl, rfl, rfl, trivial⟩ rfl (by dsimp only; rw [nobL_take (by omega)]; first | (rw [if_pos (by assumption), List.append_nil]; rfl) | (rw [if_neg (by simp_all), List.length_append]; rfl)) (Nat.le_refl _)) (by first | omega | (show _ < _; omega) | (simp only []; omega)))
   ·have h2 := h2b
    try simp only [qqT, qqF, qqN, qqM, qqL, qqE] at h2
    refine VC.skip ?_
    refine VC.region ?_
    refine VO.val rfl rfl (OpV.add rfl rfl rfl (by unfold fits; omega)) ?_
    refine VO.mv rfl rfl rfl rfl ?_
    refine VO.nil ?_
    exact Exists.intro (⟨(u, q + 1), by show _ ≤ _; omega⟩) (And.intro (Le.mk hB [0] ⟨rfl, rfl, rfl, rfl, rfl, trivial⟩ rfl (by dsimp only; rw [nobL_take (by omega)]; first | (rw [if_pos (by assumption), List.append_nil]; rfl) | (rw [if_neg (by simp_all), List.length_append]; rfl)) (Nat.le_refl _)) (by first | omega | (show _ < _; omega) | (simp only []; omega)))
  ·have aH1 := aH1b
   try simp only [qqT, qqF, qqN, qqM, qqL, qqE] at aH1
   refine VC.exit ?_
   refine VC.seq ?_
   have hqe : ns.take q = ns := List.take_of_length_le (by omega)
   rw [hqe]
   refine VC.region ?_
   refine VO.mv rfl rfl rfl rfl ?_
   refine VO.ma rfl rfl rfl rfl ?_
   refine VO.ma rfl rfl rfl rfl ?_
   refine VO.nil ?_
   refine VC.ret ?_
   exact Exists.intro _ (And.intro (RetN.two Tryz.results72 (ResN.rowS (i := 0) rfl rfl rfl) (ResN.v rfl)) (by rw [if_pos hf0, hf0]))
end Go.Proofs.YtaaokimiadfidaaGreatDoor
