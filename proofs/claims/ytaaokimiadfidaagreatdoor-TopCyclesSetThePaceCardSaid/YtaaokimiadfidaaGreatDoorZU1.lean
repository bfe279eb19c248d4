/- Part 1 of a proof: the walks and laws that it needs. -/
import Derived.Shelf.SlIter.Nil
import Derived.Shelf.SortM.Plain
import Derived.Shelf.SortM.SortNone
import Derived.Ground.GgzProg
import Derived.Ground.SlgmProg
import Derived.Test.YtaaokimiadfidaaGreatDoorProg
import Derived.StringKeys
import Derived.Laws.Bits64
import Derived.Test.YtaaokimiadfidaaGreatDoorZW3
namespace Go.Proofs.YtaaokimiadfidaaGreatDoor
open Go.RowKit
set_option linter.unusedVariables false
set_option linter.unusedSimpArgs false

def hasK (m : Mach) (v : ByteArray) : Bool := m.can.any fun x => sEq v x
def planE (ms : List Mach) (ns : List NeedS) (plan : List Int) (i : Nat) : Int :=
 if plan.getD i 0 < 0 ∨ (ms.length : Int) ≤ plan.getD i 0 then 8
 else if hasK (ms.getD (plan.getD i 0).toNat default) (ns.getD i default).key = false then 4 else 0
def cnt (plan : List Int) (k : Nat) : Nat → Int
 | 0 => 0
 | r + 1 => cnt plan k r + if plan.getD r 0 = (k : Int) then 1 else 0
theorem cnt_le (plan : List Int) (k : Nat) : ∀ r, 0 ≤ cnt plan k r ∧ cnt plan k r ≤ r
 | 0 => ⟨Int.le_refl _, Int.le_refl _⟩
 | r + 1 => by
  have := cnt_le plan k r
  rw [cnt]
  split <;> omega
theorem cnt_mono (plan : List Int) (k : Nat) {r : Nat} : ∀ {t : Nat}, r ≤ t → cnt plan k r ≤ cnt plan k t
 | 0, h => by rw [show r = 0 by omega]; exact Int.le_refl _
 | t + 1, h => by
  by_cases e : r = t + 1
  ·rw [e]; exact Int.le_refl _
  ·have := cnt_mono plan k (t := t) (r := r) (by omega)
   rw [cnt]
   split <;> omega
def overE (ms : List Mach) (plan : List Int) (k : Nat) : Int := if (ms.getD k default).feeders < cnt plan k plan.length then 12 else 0
def planF (ms : List Mach) (ns : List NeedS) (plan : List Int) : Int :=
 if plan.length ≠ ns.length then 3
 else if firstE (planE ms ns plan) plan.length ≠ 0 then firstE (planE ms ns plan) plan.length
 else firstE (overE ms plan) ms.length
theorem planF_3 {ms : List Mach} {ns : List NeedS} {plan : List Int} (h : plan.length ≠ ns.length) : planF ms ns plan = 3 := by rw [planF, if_pos h]
theorem planF_at {ms : List Mach} {ns : List NeedS} {plan : List Int} {q : Nat} {e : Int} (h : plan.length = ns.length) (hq : q < plan.length) (hn : ∀ j, j < q → planE ms ns plan j = 0) (he : planE ms ns plan q = e) (h0 : e ≠ 0) : planF ms ns plan = e := by
 have := firstE_found hn (by rw [he]; exact h0) hq
 rw [planF, if_neg (by omega), this, he, if_pos h0]
theorem planF_12 {ms : List Mach} {ns : List NeedS} {plan : List Int} (h : plan.length = ns.length) (hn : ∀ j, j < plan.length → planE ms ns plan j = 0) {k : Nat} (hk : k < ms.length) (ho : (ms.getD k default).feeders < cnt plan k plan.length) : planF ms ns plan = 12 := by
 rw [planF, if_neg (by omega), firstE_none hn, if_neg (by decide)]
 cases hz : firstE (overE ms plan) ms.length with
 | ofNat z =>
  by_cases h0 : firstE (overE ms plan) ms.length = 0
  ·have := firstE_zero h0 k hk
   rw [overE, if_pos ho] at this; cases this
  ·have : ∀ n, firstE (overE ms plan) n = 0 ∨ firstE (overE ms plan) n = 12 := by
    intro n
    induction n with
    | zero => exact .inl rfl
    | succ n ih =>
     rw [firstE]
     split
     ·rw [overE]; split
      ·exact .inr rfl
      ·exact .inl rfl
     ·exact ih
   rcases this ms.length with h1 | h1
   ·exact absurd h1 h0
   ·rw [← hz, h1]
 | negSucc z =>
  have : ∀ n, 0 ≤ firstE (overE ms plan) n := by
   intro n
   induction n with
   | zero => exact Int.le_refl _
   | succ n ih =>
    rw [firstE]
    split
    ·rw [overE]; split <;> decide
    ·exact ih
  have := this ms.length
  omega
theorem planF_0 {ms : List Mach} {ns : List NeedS} {plan : List Int} (h : plan.length = ns.length) (hn : ∀ j, j < plan.length → planE ms ns plan j = 0) (ho : ∀ k, k < ms.length → cnt plan k plan.length ≤ (ms.getD k default).feeders) : planF ms ns plan = 0 := by
 rw [planF, if_neg (by omega), firstE_none hn, if_neg (by decide)]
 refine firstE_none fun k hk => ?_
 rw [overE, if_neg (by have := ho k hk; omega)]
theorem planE_ok {ms : List Mach} {ns : List NeedS} {plan : List Int} {i : Nat} (h : planE ms ns plan i = 0) : ∃ k : Nat, plan.getD i 0 = (k : Int) ∧ k < ms.length := by
 rw [planE] at h
 split at h
 ·cases h
 ·exact ⟨(plan.getD i 0).toNat, by omega, by omega⟩
theorem planE_8 {ms : List Mach} {ns : List NeedS} {plan : List Int} {i : Nat} (h : plan.getD i 0 < 0 ∨ (ms.length : Int) ≤ plan.getD i 0) : planE ms ns plan i = 8 := by rw [planE, if_pos h]
theorem planE_4 {ms : List Mach} {ns : List NeedS} {plan : List Int} {i : Nat} (h : ¬ (plan.getD i 0 < 0 ∨ (ms.length : Int) ≤ plan.getD i 0)) (h2 : hasK (ms.getD (plan.getD i 0).toNat default) (ns.getD i default).key = false) : planE ms ns plan i = 4 := by rw [planE, if_neg h, if_pos h2]
theorem planE_0 {ms : List Mach} {ns : List NeedS} {plan : List Int} {i : Nat} (h : ¬ (plan.getD i 0 < 0 ∨ (ms.length : Int) ≤ plan.getD i 0)) (h2 : hasK (ms.getD (plan.getD i 0).toNat default) (ns.getD i default).key = true) : planE ms ns plan i = 0 := by rw [planE, if_neg h, if_neg (by rw [h2]; simp)]
theorem machF_len {ms : List Mach} (h : machF ms = 0) : 0 < ms.length ∧ ms.length ≤ 6 := by
 rw [machF] at h
 split at h
 ·cases h
 ·split at h
  ·cases h
  ·omega
theorem machF_each {ms : List Mach} (h : machF ms = 0) {i : Nat} (hi : i < ms.length) : ((0 ≤ (ms.getD i default).each ∧ (ms.getD i default).each ≤ 10000000) ∧ (0 ≤ (ms.getD i default).fixed ∧ (ms.getD i default).fixed ≤ 10000000) ∧ (0 ≤ (ms.getD i default).feeders ∧ (ms.getD i default).feeders ≤ 100)) ∧ canF (ms.getD i default).can = 0 := by
 obtain ⟨l1, l2⟩ := machF_len h
 rw [machF, if_neg (by omega), if_neg (by omega)] at h
 have := firstE_zero h i hi
 rw [machE] at this
 split at this
 ·cases this
 ·split at this
  ·cases this
  ·split at this
   ·cases this
   ·rename_i h1 h2 h3
    refine ⟨?_, this⟩
    have h3' := Bool.eq_false_iff.2 h3
    rw [Bool.or_eq_false_iff, Bool.or_eq_false_iff] at h3'
    simp only [outR, Bool.or_eq_false_iff, decide_eq_false_iff_not] at h3'
    omega
def lineF (ms : List Mach) (ns : List NeedS) (plan : List Int) : Int := if faultF ms ns ≠ 0 then faultF ms ns else planF ms ns plan
theorem lineF_0 {ms : List Mach} {ns : List NeedS} {plan : List Int} (h : lineF ms ns plan = 0) : machF ms = 0 ∧ needsF ns 1 1000 = 0 ∧ planF ms ns plan = 0 := by
 rw [lineF] at h
 split at h
 ·rename_i h1; exact absurd h h1
 ·rename_i h1
  have := faultF_0 (ms := ms) (ns := ns) (by omega)
  exact ⟨this.1, this.2, h⟩
structure SmallM (ms : List Mach) : Prop where
 l : ms.length ≤ 1000000000
 k : ∀ i, (ms.getD i default).key.size ≤ 1000000000
 c : ∀ i, (ms.getD i default).can.length ≤ 1000000000
 s : ∀ i j, ((ms.getD i default).can.getD j ByteArray.empty).size ≤ 1000000000
structure SmallN (ns : List NeedS) : Prop where
 l : ns.length ≤ 1000000000
 k : ∀ i, (ns.getD i default).key.size ≤ 1000000000
end Go.Proofs.YtaaokimiadfidaaGreatDoor
namespace Go.Proofs.YtaaokimiadfidaaGreatDoor
open Go.RowKit
set_option linter.unusedVariables false
set_option linter.unusedSimpArgs false

def cyc (ms : List Mach) (ns : List NeedS) (plan : List Int) (k : Nat) : Nat → Int
 | 0 => (ms.getD k default).fixed
 | r + 1 => if plan.getD r 0 = (k : Int) then cyc ms ns plan k r + (ms.getD k default).each * (ns.getD r default).count else cyc ms ns plan k r
def cycL (ms : List Mach) (ns : List NeedS) (plan : List Int) : List Int := tabI ms.length (fun k => cyc ms ns plan k plan.length)
theorem cycL_len (ms : List Mach) (ns : List NeedS) (plan : List Int) : (cycL ms ns plan).length = ms.length := tabI_len _ _
theorem needsF_len {ns : List NeedS} {lo hi : Int} (h : needsF ns lo hi = 0) : ns.length ≤ 1000 := by
 rw [needsF] at h
 split at h
 ·cases h
 ·omega
theorem needsF_count {ns : List NeedS} {lo hi : Int} (h : needsF ns lo hi = 0) {i : Nat} (hi' : i < ns.length) : lo ≤ (ns.getD i default).count ∧ (ns.getD i default).count ≤ hi := by
 have hl := needsF_len h
 rw [needsF, if_neg (by omega)] at h
 have := firstE_zero h i hi'
 rw [needE] at this
 split at this
 ·cases this
 ·split at this
  ·cases this
  ·split at this
   ·cases this
   ·rename_i h3
    have h3' := Bool.eq_false_iff.2 h3
    simp only [outR, Bool.or_eq_false_iff, decide_eq_false_iff_not] at h3'
    omega
theorem mul_in {a b : Int} (h1 : 0 ≤ a ∧ a ≤ 10000000) (h2 : 1 ≤ b ∧ b ≤ 1000) : 0 ≤ a * b ∧ a * b ≤ 10000000000 := by
 refine ⟨Int.mul_nonneg h1.1 (by omega), ?_⟩
 have h3 : a * b ≤ 10000000 * b := Int.mul_le_mul_of_nonneg_right h1.2 (by omega)
 omega
section
variable {ms : List Mach} {ns : List NeedS} {plan : List Int}
theorem cyc_in (hm : machF ms = 0) (hn : needsF ns 1 1000 = 0) {k : Nat} (hk : k < ms.length) : ∀ {r : Nat}, r ≤ ns.length → 0 ≤ cyc ms ns plan k r ∧ cyc ms ns plan k r ≤ 10000000 + 10000000000 * r
 | 0, _ => by have := (machF_each hm hk).1; rw [cyc]; omega
 | r + 1, hr => by
  have ih := cyc_in hm hn hk (r := r) (by omega)
  have hp := mul_in (machF_each hm hk).1.1 (needsF_count hn (i := r) (by omega))
  rw [cyc]
  split <;> omega
theorem planF_zero (h : planF ms ns plan = 0) : plan.length = ns.length ∧ ∀ j, j < plan.length → planE ms ns plan j = 0 := by
 rw [planF] at h
 split at h
 ·cases h
 ·split at h
  ·rename_i h2; exact absurd h h2
  ·rename_i h1 h2
   exact ⟨by omega, firstE_zero (by omega)⟩
end
theorem if_step {j q : Nat} {a b : Int} (h : j ≠ q) : (if j < q then a else b) = (if j < q + 1 then a else b) := by
 by_cases hj : j < q
 ·rw [if_pos hj, if_pos (by omega)]
 ·rw [if_neg hj, if_neg (by omega)]
def slowC (ms : List Mach) (ns : List NeedS) (plan : List Int) : Int := maxL (cycL ms ns plan)
end Go.Proofs.YtaaokimiadfidaaGreatDoor
namespace Go.Proofs.YtaaokimiadfidaaGreatDoor
set_option linter.unusedVariables false
set_option linter.unusedSimpArgs false
def ndiff (a b : Nat) : Nat := a ^^^ (a &&& b)
theorem ndiff_bit (a b i : Nat) : (ndiff a b).testBit i = (a.testBit i && !b.testBit i) := by
 unfold ndiff
 rw [Nat.testBit_xor, Nat.testBit_and]
 cases a.testBit i <;> cases b.testBit i <;> rfl
def SubN (a r : Nat) : Prop := a &&& r = a
instance (a r : Nat) : Decidable (SubN a r) := inferInstanceAs (Decidable (_ = _))
theorem SubN.iff {a r : Nat} : SubN a r ↔ ∀ i, a.testBit i = true → r.testBit i = true := by
 constructor
 ·intro h i hi
  have := congrArg (fun x => x.testBit i) h
  simp only [Nat.testBit_and, hi, Bool.true_and] at this
  exact this
 ·intro h
  refine Nat.eq_of_testBit_eq fun i => ?_
  rw [Nat.testBit_and]
  cases hi : a.testBit i with
  | false => rfl
  | true => rw [h i hi]; rfl
theorem SubN.refl (a : Nat) : SubN a a := Nat.and_self a
theorem SubN.zero (r : Nat) : SubN 0 r := Nat.zero_and r
theorem SubN.le {a r : Nat} (h : SubN a r) : a ≤ r := by rw [← h]; exact Nat.and_le_right
theorem SubN.trans {a b c : Nat} (h1 : SubN a b) (h2 : SubN b c) : SubN a c := SubN.iff.2 fun i hi => SubN.iff.1 h2 i (SubN.iff.1 h1 i hi)
theorem SubN.and_ (a r : Nat) : SubN (a &&& r) r := by
 unfold SubN; rw [Nat.and_assoc, Nat.and_self]
theorem SubN.diff (a b : Nat) : SubN (ndiff a b) a := SubN.iff.2 fun i hi => by
 rw [ndiff_bit, Bool.and_eq_true] at hi; exact hi.1
theorem and_half (a b : Nat) : (a &&& b) / 2 = a / 2 &&& b / 2 := by
 refine Nat.eq_of_testBit_eq fun i => ?_
 rw [Nat.testBit_div_two, Nat.testBit_and, Nat.testBit_and, Nat.testBit_div_two, Nat.testBit_div_two]
theorem and_low (a b : Nat) : (a &&& b) % 2 = if a % 2 = 1 ∧ b % 2 = 1 then 1 else 0 := by
 have h := Nat.testBit_and a b 0
 simp only [Nat.testBit_zero] at h
 by_cases ha : a % 2 = 1
 ·by_cases hb : b % 2 = 1
  ·rw [if_pos ⟨ha, hb⟩]
   rw [ha, hb] at h
   simpa using h
  ·rw [if_neg (fun h => hb h.2)]
   have hb0 : b % 2 = 0 := by omega
   have h' : ¬ ((a &&& b) % 2 = 1) := fun e => by rw [e, ha, hb0] at h; exact absurd h (by decide)
   have := Nat.mod_two_eq_zero_or_one (a &&& b)
   omega
 ·rw [if_neg (fun h => ha h.1)]
  have ha0 : a % 2 = 0 := by omega
  have h' : ¬ ((a &&& b) % 2 = 1) := fun e => by rw [e, ha0] at h; exact absurd h (by simp)
  have := Nat.mod_two_eq_zero_or_one (a &&& b)
  omega
theorem SubN.half {a r : Nat} (h : SubN a r) : SubN (a / 2) (r / 2) := by
 unfold SubN at h ⊢; rw [← and_half, h]
theorem SubN.low {a r : Nat} (h : SubN a r) : a % 2 ≤ r % 2 := by
 unfold SubN at h
 have h2 := and_low a r
 rw [h] at h2
 split at h2 <;> omega
theorem sub_next : ∀ (sub s r : Nat), SubN s r → SubN sub r → s < sub → s ≤ (sub - 1) &&& r
 | sub, s, r, h1, h2, h => by
  have e1 := and_half (sub - 1) r
  have e2 := and_low (sub - 1) r
  have hl := h1.low
  have hm := h2.low
  by_cases hb : sub % 2 = 1
  ·have hd : (sub - 1) / 2 = sub / 2 := by omega
   rw [hd, h2.half] at e1
   have h0 : (sub - 1) % 2 = 0 := by omega
   rw [if_neg (by omega)] at e2
   omega
  ·have hs : s / 2 < sub / 2 := by omega
   have hd : (sub - 1) / 2 = sub / 2 - 1 := by omega
   have ih := sub_next (sub / 2) (s / 2) (r / 2) h1.half h2.half hs
   rw [hd] at e1
   rw [← e1] at ih
   by_cases hr : r % 2 = 1
   ·rw [if_pos ⟨by omega, hr⟩] at e2; omega
   ·rw [if_neg (fun h => hr h.2)] at e2; omega
 termination_by sub => sub
 decreasing_by omega
theorem sub_dec {sub r : Nat} (h : sub ≠ 0) : (sub - 1) &&& r < sub := Nat.lt_of_le_of_lt Nat.and_le_left (by omega)
theorem full_bit (n i : Nat) : (2 ^ n - 1).testBit i = decide (i < n) := Nat.testBit_two_pow_sub_one ..
end Go.Proofs.YtaaokimiadfidaaGreatDoor
namespace Go.Proofs.YtaaokimiadfidaaGreatDoor
open Go.RowKit
set_option linter.unusedVariables false
set_option linter.unusedSimpArgs false
abbrev neverC : Int := 1152921504606846976
def numB (b : Nat → Bool) : Nat → Nat
 | 0 => 0
 | r + 1 => numB b r + if b r = true then 1 else 0
def timB (m : Mach) (ns : List NeedS) (b : Nat → Bool) : Nat → Int
 | 0 => m.fixed
 | r + 1 => if b r = true then timB m ns b r + m.each * (ns.getD r default).count else timB m ns b r
def okA (m : Mach) (ns : List NeedS) (b : Nat → Bool) (i : Nat) : Bool := !b i || (hasK m (ns.getD i default).key && decide ((numB b (i + 1) : Int) ≤ m.feeders))
def okB (m : Mach) (ns : List NeedS) (b : Nat → Bool) : Bool := (List.range ns.length).all (okA m ns b)
def cycB (m : Mach) (ns : List NeedS) (b : Nat → Bool) : Int := if okB m ns b = true then timB m ns b ns.length else neverC
theorem numB_congr {b b' : Nat → Bool} : ∀ {r : Nat}, (∀ i, i < r → b i = b' i) → numB b r = numB b' r
 | 0, _ => rfl
 | r + 1, h => by rw [numB, numB, numB_congr fun i hi => h i (by omega), h r (by omega)]
theorem timB_congr {m : Mach} {ns : List NeedS} {b b' : Nat → Bool} : ∀ {r : Nat}, (∀ i, i < r → b i = b' i) → timB m ns b r = timB m ns b' r
 | 0, _ => rfl
 | r + 1, h => by rw [timB, timB, timB_congr fun i hi => h i (by omega), h r (by omega)]
theorem okA_congr {m : Mach} {ns : List NeedS} {b b' : Nat → Bool} {i : Nat} (h : ∀ j, j ≤ i → b j = b' j) : okA m ns b i = okA m ns b' i := by
 unfold okA
 rw [h i (Nat.le_refl _), numB_congr fun j hj => h j (by omega)]
theorem okB_iff {m : Mach} {ns : List NeedS} {b : Nat → Bool} : okB m ns b = true ↔ ∀ i, i < ns.length → okA m ns b i = true := by
 unfold okB
 rw [List.all_eq_true]
 exact ⟨fun h i hi => h i (List.mem_range.2 hi), fun h i hi => h i (List.mem_range.1 hi)⟩
theorem cycB_congr {m : Mach} {ns : List NeedS} {b b' : Nat → Bool} (h : ∀ i, i < ns.length → b i = b' i) : cycB m ns b = cycB m ns b' := by
 have e : okB m ns b = okB m ns b' := by
  rw [Bool.eq_iff_iff, okB_iff, okB_iff]
  constructor
  ·intro h2 i hi; rw [← okA_congr fun j hj => h j (by omega)]; exact h2 i hi
  ·intro h2 i hi; rw [okA_congr fun j hj => h j (by omega)]; exact h2 i hi
 unfold cycB; rw [e, timB_congr h]
structure MnOk (ms : List Mach) (ns : List NeedS) : Prop where
 fix : ∀ k, 0 ≤ (ms.getD k default).fixed ∧ (ms.getD k default).fixed ≤ 10000000
 each : ∀ k, 0 ≤ (ms.getD k default).each ∧ (ms.getD k default).each ≤ 10000000
 cnt : ∀ i, 0 ≤ (ns.getD i default).count ∧ (ns.getD i default).count ≤ 1000
 len : ns.length ≤ 1000
theorem mul_in2 {a b : Int} (h1 : 0 ≤ a ∧ a ≤ 10000000) (h2 : 0 ≤ b ∧ b ≤ 1000) : 0 ≤ a * b ∧ a * b ≤ 10000000000 := by
 refine ⟨Int.mul_nonneg h1.1 h2.1, ?_⟩
 have h3 : a * b ≤ 10000000 * b := Int.mul_le_mul_of_nonneg_right h1.2 h2.1
 omega
section
variable {ms : List Mach} {ns : List NeedS}
theorem timB_in (h : MnOk ms ns) (k : Nat) (b : Nat → Bool) : ∀ r, 0 ≤ timB (ms.getD k default) ns b r ∧ timB (ms.getD k default) ns b r ≤ 10000000 + 10000000000 * r
 | 0 => by have := h.fix k; rw [timB]; omega
 | r + 1 => by
  have ih := timB_in h k b r
  have := mul_in2 (h.each k) (h.cnt r)
  rw [timB]; split <;> omega
theorem cycB_in (h : MnOk ms ns) (k : Nat) (b : Nat → Bool) : 0 ≤ cycB (ms.getD k default) ns b ∧ cycB (ms.getD k default) ns b ≤ neverC := by
 have h1 := timB_in h k b ns.length
 have := h.len
 unfold cycB; split <;> simp only [neverC] <;> omega
end
def mnK (F : Nat → Int) : Nat → Int
 | 0 => neverC
 | k + 1 => min (mnK F k) (F k)
theorem mnK_never (F : Nat → Int) : ∀ K, mnK F K ≤ neverC
 | 0 => Int.le_refl _
 | K + 1 => by have := mnK_never F K; rw [mnK]; omega
theorem mnK_le {F : Nat → Int} : ∀ {K k : Nat}, k < K → mnK F K ≤ F k
 | K + 1, k, h => by
  rw [mnK]
  by_cases e : k = K
  ·subst e; omega
  ·have := mnK_le (F := F) (show k < K by omega); omega
theorem mnK_at {F : Nat → Int} : ∀ {K : Nat}, mnK F K < neverC → ∃ k, k < K ∧ F k = mnK F K
 | 0, h => absurd h (Int.lt_irrefl _)
 | K + 1, h => by
  rw [mnK] at h ⊢
  by_cases e : F K ≤ mnK F K
  ·exact ⟨K, by omega, by omega⟩
  ·obtain ⟨k, h1, h2⟩ := mnK_at (F := F) (K := K) (by omega)
   exact ⟨k, by omega, by omega⟩
theorem mnK_iff {F : Nat → Int} {K : Nat} {v : Int} (hv : v < neverC) : mnK F K ≤ v ↔ ∃ k, k < K ∧ F k ≤ v := by
 constructor
 ·intro h
  obtain ⟨k, h1, h2⟩ := mnK_at (F := F) (K := K) (by omega)
  exact ⟨k, h1, by omega⟩
 ·rintro ⟨k, h1, h2⟩
  have := mnK_le (F := F) h1; omega
theorem mnK_nn {F : Nat → Int} (h : ∀ k, 0 ≤ F k) : ∀ K, 0 ≤ mnK F K
 | 0 => show (0 : Int) ≤ neverC by decide
 | K + 1 => by have := mnK_nn h K; have := h K; rw [mnK]; omega
def fsK (F : Nat → Int) (v : Int) : Nat → Nat
 | 0 => 0
 | K + 1 => if fsK F v K < K then fsK F v K else if F K = v then K else K + 1
theorem fsK_spec (F : Nat → Int) (v : Int) : ∀ K, fsK F v K ≤ K ∧ (∀ j, j < fsK F v K → F j ≠ v) ∧ (fsK F v K < K → F (fsK F v K) = v)
 | 0 => ⟨Nat.le_refl _, fun j hj => absurd hj (Nat.not_lt_zero j), fun h => absurd h (Nat.not_lt_zero _)⟩
 | K + 1 => by
  obtain ⟨h1, h2, h3⟩ := fsK_spec F v K
  rw [fsK]
  split
  ·rename_i h; exact ⟨by omega, h2, fun _ => h3 h⟩
  ·have e : fsK F v K = K := by omega
   rw [e] at h2
   split
   ·rename_i h4; exact ⟨by omega, h2, fun _ => h4⟩
   ·rename_i h4
    refine ⟨Nat.le_refl _, fun j hj => ?_, fun h => absurd h (Nat.lt_irrefl _)⟩
    by_cases e2 : j = K
    ·rw [e2]; exact h4
    ·exact h2 j (by omega)
theorem fsK_eq {F : Nat → Int} {v : Int} {K k : Nat} (hk : k < K) (h : F k = v) (hn : ∀ j, j < k → F j ≠ v) : fsK F v K = k := by
 obtain ⟨h1, h2, h3⟩ := fsK_spec F v K
 have a1 : ¬ k < fsK F v K := fun h' => h2 k h' h
 have a2 : ¬ fsK F v K < k := fun h' => hn _ h' (h3 (by omega))
 omega
def mnS (F : Nat → Int) (s : Nat) : Int := mnK (fun t => if SubN t s then F t else neverC) (s + 1)
theorem mnS_iff {F : Nat → Int} {s : Nat} {v : Int} (hv : v < neverC) : mnS F s ≤ v ↔ ∃ t, SubN t s ∧ F t ≤ v := by
 unfold mnS
 rw [mnK_iff hv]
 constructor
 ·rintro ⟨k, h1, h2⟩
  split at h2
  ·rename_i h3; exact ⟨k, h3, h2⟩
  ·omega
 ·rintro ⟨t, h1, h2⟩
  exact ⟨t, by have := h1.le; omega, by rw [if_pos h1]; exact h2⟩
theorem mnS_never (F : Nat → Int) (s : Nat) : mnS F s ≤ neverC := mnK_never _ _
theorem mnS_nn {F : Nat → Int} (h : ∀ t, 0 ≤ F t) (s : Nat) : 0 ≤ mnS F s := mnK_nn (fun t => by split; exact h t; decide) _
theorem eq_of_le {a b : Int} (ha : a ≤ neverC) (hb : b ≤ neverC) (ha0 : 0 ≤ a) (hb0 : 0 ≤ b) (h : ∀ v, 0 ≤ v → v < neverC → (a ≤ v ↔ b ≤ v)) : a = b := by
 by_cases h1 : a < b
 ·exact absurd ((h a ha0 (by omega)).1 (Int.le_refl _)) (by omega)
 ·by_cases h2 : b < a
  ·exact absurd ((h b hb0 (by omega)).2 (Int.le_refl _)) (by omega)
  ·omega
section
variable (ms : List Mach) (ns : List NeedS) (fx : Nat → Nat)
def alnS (k t : Nat) : Int := cycB (ms.getD k default) ns fun i => (fx k ||| t).testBit i
def belS : Nat → Nat → Int
 | 0, s => if s = 0 then 0 else neverC
 | k + 1, s => mnS (fun t => max (belS k (ndiff s t)) (alnS ms ns fx k t)) s
end
theorem ex_mask (p : Nat → Bool) (s : Nat) : ∃ t : Nat, ∀ i, t.testBit i = (s.testBit i && p i) := by
 induction s using Nat.strongRecOn generalizing p with
 | _ s ih =>
  by_cases h0 : s = 0
  ·subst h0; exact ⟨0, fun i => by simp⟩
  ·obtain ⟨t, ht⟩ := ih (s / 2) (by omega) fun i => p (i + 1)
   refine ⟨2 * t + if (s.testBit 0 && p 0) = true then 1 else 0, fun i => ?_⟩
   cases i with
   | zero =>
    cases h : (s.testBit 0 && p 0) with
    | true => simp only [if_true, Nat.testBit_zero]; simp
    | false => simp [Nat.testBit_zero]
   | succ i =>
    rw [Nat.testBit_succ, Nat.testBit_succ]
    have : (2 * t + if (s.testBit 0 && p 0) = true then 1 else 0) / 2 = t := by split <;> omega
    rw [this]; exact ht i
section
variable {ms : List Mach} {ns : List NeedS} {fx : Nat → Nat}
theorem belS_nn (h : MnOk ms ns) : ∀ k s, 0 ≤ belS ms ns fx k s
 | 0, s => by rw [belS]; split <;> decide
 | k + 1, s => mnS_nn (fun t => by have := belS_nn h k (ndiff s t); omega) s
theorem belS_never : ∀ k s, belS ms ns fx k s ≤ neverC
 | 0, s => by rw [belS]; split <;> decide
 | k + 1, s => mnS_never _ _
theorem belS_iff {v : Int} (h0 : 0 ≤ v) (hv : v < neverC) : ∀ (k s : Nat), belS ms ns fx k s ≤ v ↔ ∃ g : Nat → Nat, (∀ i, s.testBit i = true → g i < k) ∧ ∀ j, j < k → cycB (ms.getD j default) ns (fun i => (fx j).testBit i || (s.testBit i && decide (g i = j))) ≤ v
  | 0, s => by
    rw [belS]
    constructor
    · intro h
      split at h
      · rename_i e; subst e; exact ⟨fun _ => 0, fun i hi => by simp at hi, fun j hj => absurd hj (Nat.not_lt_zero j)⟩
      · omega
    · rintro ⟨g, h1, _⟩
      rw [if_pos]
      · exact h0
      · refine Nat.eq_of_testBit_eq fun i => ?_
        cases hi : s.testBit i with
        | false => simp
        | true => exact absurd (h1 i hi) (Nat.not_lt_zero _)
  | k + 1, s => by
    rw [belS, mnS_iff hv]
    constructor
    · rintro ⟨t, ht, hm⟩
      obtain ⟨g, g1, g2⟩ := (belS_iff h0 hv k (ndiff s t)).1 (by omega)
      refine ⟨fun i => if t.testBit i = true then k else g i, fun i hi => ?_, fun j hj => ?_⟩
      · show (if t.testBit i = true then k else g i) < k + 1
        split
        · omega
        · rename_i h2
          have := g1 i (by rw [ndiff_bit, hi]; simpa using h2)
          omega
      · by_cases e : j = k
        · subst e
          refine Int.le_trans (Int.le_of_eq (cycB_congr fun i hi => ?_)) (show alnS ms ns fx j t ≤ v by omega)
          rw [Nat.testBit_or]
          congr 1
          show (s.testBit i && decide ((if t.testBit i = true then j else g i) = j)) = t.testBit i
          cases h2 : t.testBit i with
          | true => rw [SubN.iff.1 ht i h2]; simp
          | false =>
            cases h3 : s.testBit i with
            | false => rfl
            | true =>
              have := g1 i (by rw [ndiff_bit, h3, h2]; rfl)
              simp; omega
        · refine Int.le_trans (Int.le_of_eq (cycB_congr fun i hi => ?_)) (g2 j (by omega))
          congr 1
          rw [ndiff_bit]
          show (s.testBit i && decide ((if t.testBit i = true then k else g i) = j)) = _
          cases h2 : t.testBit i with
          | true => simp; omega
          | false => simp
    · rintro ⟨g, g1, g2⟩
      obtain ⟨t, ht⟩ := ex_mask (fun i => decide (g i = k)) s
      have hts : SubN t s := SubN.iff.2 fun i hi => by rw [ht, Bool.and_eq_true] at hi; exact hi.1
      refine ⟨t, hts, ?_⟩
      have h1 : belS ms ns fx k (ndiff s t) ≤ v := (belS_iff h0 hv k (ndiff s t)).2 ⟨g, fun i hi => by
        rw [ndiff_bit, ht, Bool.and_eq_true] at hi
        have := g1 i hi.1
        have h3 := hi.2
        rw [hi.1] at h3
        simp at h3
        omega, fun j hj => by
        refine Int.le_trans (Int.le_of_eq (cycB_congr fun i hi => ?_)) (g2 j (by omega))
        congr 1
        rw [ndiff_bit, ht]
        cases s.testBit i with
        | false => rfl
        | true =>
          by_cases e : g i = j
          · simp [e]; omega
          · simp [e]⟩
      have h2 : alnS ms ns fx k t ≤ v := by
        refine Int.le_trans (Int.le_of_eq (cycB_congr fun i hi => ?_)) (g2 k (by omega))
        rw [Nat.testBit_or, ht]
      omega
end
def plB (pl : List Int) (k i : Nat) : Bool := decide (i < pl.length) && decide (pl.getD i 0 = (k : Int))
theorem plB_snoc (pl : List Int) (c k i : Nat) : plB (pl ++ [(c : Int)]) k i = (plB pl k i || (decide (i = pl.length) && decide (c = k))) := by
 unfold plB
 by_cases h : i < pl.length
 ·rw [List.getD_eq_getElem?_getD, List.getElem?_append_left h, ← List.getD_eq_getElem?_getD]
  simp [h, show i < pl.length + 1 by omega, show i ≠ pl.length by omega]
 ·by_cases h2 : i = pl.length
  ·subst h2; simp
   exact ⟨fun h => by omega, fun h => by omega⟩
  ·simp [h, h2, show ¬ i < pl.length + 1 by omega]
section
variable (ms : List Mach) (ns : List NeedS)
def ExtP (pl : List Int) (v : Int) : Prop := ∃ g : Nat → Nat, (∀ i, pl.length ≤ i → i < ns.length → g i < ms.length) ∧ ∀ j, j < ms.length → cycB (ms.getD j default) ns (fun i => plB pl j i || ((decide (pl.length ≤ i) && decide (i < ns.length)) && decide (g i = j))) ≤ v
def mxK (F : Nat → Int) : Nat → Int
 | 0 => 0
 | k + 1 => max (mxK F k) (F k)
def mxC (pl : List Int) : Int := mxK (fun k => cycB (ms.getD k default) ns (plB pl k)) ms.length
def bstV : Nat → List Int → Int
 | 0, pl => mxC ms ns pl
 | d + 1, pl => mnK (fun k => bstV d (pl ++ [(k : Int)])) ms.length
def grd : Nat → List Int → List Int
 | 0, pl => pl
 | d + 1, pl => grd d (pl ++ [((fsK (fun k => bstV ms ns d (pl ++ [(k : Int)])) (bstV ms ns (d + 1) pl) ms.length : Nat) : Int)])
end
theorem mxK_le {F : Nat → Int} {v : Int} (h0 : 0 ≤ v) : ∀ {K : Nat}, mxK F K ≤ v ↔ ∀ k, k < K → F k ≤ v
 | 0 => ⟨fun _ k hk => absurd hk (Nat.not_lt_zero k), fun _ => h0⟩
 | K + 1 => by
  have ih := mxK_le (F := F) h0 (K := K)
  rw [mxK]
  constructor
  ·intro h k hk
   by_cases e : k = K
   ·subst e; omega
   ·exact ih.1 (by omega) k (by omega)
  ·intro h
   have h1 := ih.2 fun k hk => h k (by omega)
   have h2 := h K (by omega)
   omega
theorem mxK_nn (F : Nat → Int) : ∀ K, 0 ≤ mxK F K
 | 0 => Int.le_refl _
 | K + 1 => by have := mxK_nn F K; rw [mxK]; omega
theorem mxK_congr {F G : Nat → Int} : ∀ {K}, (∀ k, k < K → F k = G k) → mxK F K = mxK G K
 | 0, _ => rfl
 | K + 1, h => by rw [mxK, mxK, mxK_congr fun k hk => h k (by omega), h K (by omega)]
theorem mxK_up {F : Nat → Int} {v : Int} (h0 : 0 ≤ v) {K : Nat} (h : ∀ k, k < K → F k ≤ v) : mxK F K ≤ v := (mxK_le h0).2 h
section
variable {ms : List Mach} {ns : List NeedS}
theorem mxC_in (h : MnOk ms ns) (pl : List Int) : 0 ≤ mxC ms ns pl ∧ mxC ms ns pl ≤ neverC :=
 ⟨mxK_nn _ _, mxK_up (by decide) fun k _ => (cycB_in h k _).2⟩
theorem bstV_in (h : MnOk ms ns) : ∀ d pl, 0 ≤ bstV ms ns d pl ∧ bstV ms ns d pl ≤ neverC
 | 0, pl => mxC_in h pl
 | d + 1, pl => ⟨mnK_nn (fun k => (bstV_in h d _).1) _, mnK_never _ _⟩
theorem ext_snoc {pl : List Int} {v : Int} (hl : pl.length < ns.length) : ExtP ms ns pl v ↔ ∃ k, k < ms.length ∧ ExtP ms ns (pl ++ [(k : Int)]) v := by
 have key : ∀ (g g' : Nat → Nat) (c j : Nat), g pl.length = c → (∀ i, pl.length + 1 ≤ i → g' i = g i) → ∀ i, (plB (pl ++ [(c : Int)]) j i || ((decide (pl.length + 1 ≤ i) && decide (i < ns.length)) && decide (g' i = j))) = (plB pl j i || ((decide (pl.length ≤ i) && decide (i < ns.length)) && decide (g i = j))) := fun g g' c j hc hg i => by
  rw [plB_snoc]
  by_cases e : i = pl.length
  ·subst e
   rw [hc]
   simp [hl]
   intro h; omega
  ·by_cases e2 : pl.length + 1 ≤ i
   ·rw [hg i e2]
    simp [e, e2, show pl.length ≤ i by omega]
   ·simp [e, e2, show ¬ pl.length ≤ i by omega]
 constructor
 ·rintro ⟨g, h1, h2⟩
  refine ⟨g pl.length, h1 _ (Nat.le_refl _) hl, g, fun i hi hn => h1 i (by simp at hi; omega) hn, fun j hj => ?_⟩
  have := h2 j hj
  rw [cycB_congr fun i _ => (key g g (g pl.length) j rfl (fun _ _ => rfl) i).symm] at this
  rw [List.length_append]; exact this
 ·rintro ⟨k, hk, g, h1, h2⟩
  refine ⟨fun i => if i = pl.length then k else g i, fun i hi hn => ?_, fun j hj => ?_⟩
  ·show (if i = pl.length then k else g i) < _
   split
   ·exact hk
   ·exact h1 i (by simp; omega) hn
  ·have := h2 j hj
   rw [List.length_append] at this
   rw [← cycB_congr fun i _ => key (fun i => if i = pl.length then k else g i) g k j (if_pos rfl) (fun i hi => (if_neg (by omega)).symm) i]
   exact this
theorem bstV_iff {v : Int} (h0 : 0 ≤ v) (hv : v < neverC) : ∀ (d : Nat) (pl : List Int), pl.length + d = ns.length → (bstV ms ns d pl ≤ v ↔ ExtP ms ns pl v)
 | 0, pl, hl => by
  rw [bstV, mxC, mxK_le h0]
  have e : ∀ (g : Nat → Nat) (j i : Nat), i < ns.length → (plB pl j i || ((decide (pl.length ≤ i) && decide (i < ns.length)) && decide (g i = j))) = plB pl j i := fun g j i hi => by
   simp [show ¬ pl.length ≤ i by omega]
  constructor
  ·intro h
   exact ⟨fun _ => 0, fun i hi hn => by omega, fun j hj => by rw [cycB_congr (e _ j)]; exact h j hj⟩
  ·rintro ⟨g, _, h2⟩ j hj
   have := h2 j hj
   rwa [cycB_congr (e g j)] at this
 | d + 1, pl, hl => by
  rw [bstV, mnK_iff hv, ext_snoc (by omega)]
  exact exists_congr fun k => and_congr_right fun hk => bstV_iff h0 hv d _ (by simp; omega)
def mskB (b : Nat → Bool) : Nat → Nat
 | 0 => 0
 | r + 1 => mskB b r ||| (if b r = true then 2 ^ r else 0)
theorem mskB_bit (b : Nat → Bool) : ∀ r i, (mskB b r).testBit i = (decide (i < r) && b i)
 | 0, i => by simp [mskB]
 | r + 1, i => by
  rw [mskB, Nat.testBit_or, mskB_bit b r i]
  by_cases h : i = r
  ·subst h
   cases hb : b i <;> simp [Nat.testBit_two_pow]
  ·have h1 : (if b r = true then 2 ^ r else 0).testBit i = false := by
    split
    ·rw [Nat.testBit_two_pow]; simp; omega
    ·simp
   rw [h1, Bool.or_false]
   congr 1
   exact decide_eq_decide.2 (by omega)
def mskP (pl : List Int) (k : Nat) : Nat := mskB (plB pl k) pl.length
theorem mskP_bit (pl : List Int) (k i : Nat) : (mskP pl k).testBit i = plB pl k i := by
 unfold mskP
 rw [mskB_bit]
 unfold plB
 cases decide (i < pl.length) <;> rfl
theorem mskP_snoc (pl : List Int) (c k : Nat) : mskP (pl ++ [(c : Int)]) k = if k = c then mskP pl k ||| 2 ^ pl.length else mskP pl k := by
 refine Nat.eq_of_testBit_eq fun i => ?_
 rw [mskP_bit, plB_snoc]
 split
 ·rename_i e; subst e
  rw [Nat.testBit_or, mskP_bit, Nat.testBit_two_pow]
  simp [eq_comm]
 ·rename_i e
  rw [mskP_bit]
  simp [show ¬ c = k from fun h => e h.symm]
theorem mskP_lt (pl : List Int) (k : Nat) : mskP pl k < 2 ^ pl.length := Nat.lt_pow_two_of_testBit _ fun i hi => by
 rw [mskP_bit]; unfold plB; simp [show ¬ i < pl.length by omega]
theorem mskP_back (pl : List Int) (k : Nat) : ndiff (mskP pl k ||| 2 ^ pl.length) (2 ^ pl.length) = mskP pl k := by
 refine Nat.eq_of_testBit_eq fun i => ?_
 rw [ndiff_bit, Nat.testBit_or, mskP_bit, Nat.testBit_two_pow]
 unfold plB
 by_cases h : i < pl.length
 ·simp [show ¬ pl.length = i by omega]
 ·simp [h]
def rst (n i : Nat) : Nat := ndiff (2 ^ n - 1) (2 ^ i - 1)
theorem rst_bit (n i j : Nat) : (rst n i).testBit j = (decide (i ≤ j) && decide (j < n)) := by
 unfold rst
 rw [ndiff_bit, full_bit, full_bit]
 by_cases h1 : j < n <;> by_cases h2 : j < i <;> simp [h1, h2] <;> omega
theorem rst_zero (n : Nat) : rst n 0 = 2 ^ n - 1 := by unfold rst ndiff; simp
theorem rst_succ (n i : Nat) : ndiff (rst n i) (2 ^ i) = rst n (i + 1) := by
 refine Nat.eq_of_testBit_eq fun j => ?_
 rw [ndiff_bit, rst_bit, rst_bit, Nat.testBit_two_pow]
 by_cases h1 : i = j
 ·subst h1; simp; omega
 ·by_cases h2 : i ≤ j
  ·simp [h1, h2, show i + 1 ≤ j by omega]
  ·simp [h1, h2, show ¬ i + 1 ≤ j by omega]
theorem rst_lt (n i : Nat) : rst n i < 2 ^ n := Nat.lt_pow_two_of_testBit _ fun j hj => by
 rw [rst_bit]; simp; omega
theorem belS_bst (h : MnOk ms ns) {pl : List Int} {d : Nat} (hl : pl.length + d = ns.length) : belS ms ns (mskP pl) ms.length (rst ns.length pl.length) = bstV ms ns d pl := by
 refine eq_of_le (belS_never _ _) (bstV_in h _ _).2 (belS_nn h _ _) (bstV_in h _ _).1 fun v h0 hv => ?_
 rw [belS_iff h0 hv, bstV_iff h0 hv d pl hl]
 unfold ExtP
 refine exists_congr fun g => ?_
 refine and_congr ?_ ?_
 ·constructor
  ·intro h1 i hi hn; exact h1 i (by rw [rst_bit]; simp; omega)
  ·intro h1 i hi; rw [rst_bit] at hi; simp at hi; exact h1 i hi.1 hi.2
 ·refine forall_congr' fun j => forall_congr' fun hj => ?_
  rw [cycB_congr fun i _ => by rw [mskP_bit, rst_bit]]
def okP (ms : List Mach) (ns : List NeedS) (pl : List Int) : Prop := ∀ k, k < ms.length → okB (ms.getD k default) ns (plB pl k) = true
def mxT (ms : List Mach) (ns : List NeedS) (pl : List Int) : Int := mxK (fun k => timB (ms.getD k default) ns (plB pl k) ns.length) ms.length
theorem mxC_ok {pl : List Int} (h : okP ms ns pl) : mxC ms ns pl = mxT ms ns pl := mxK_congr fun k hk => by rw [cycB, if_pos (h k hk)]
end
end Go.Proofs.YtaaokimiadfidaaGreatDoor
namespace Go.Proofs.YtaaokimiadfidaaGreatDoor
set_option linter.unusedVariables false
set_option linter.unusedSimpArgs false
section
variable {α : Type} (lt : α → α → Bool) (d : α)
def OrdL (l : List α) : Prop := l.Pairwise fun a b => lt b a = false
def InvO (l0 : List α) (i : Nat) (l : List α) : Prop := ∃ P R, l = P ++ R ∧ P.length = min i l.length ∧ l.Perm l0 ∧ OrdL lt P
def InvI (l0 : List α) (i j : Nat) (l : List α) : Prop := ∃ P x S R, l = P ++ x :: (S ++ R) ∧ P.length = j ∧ P.length + S.length = i ∧ l.Perm l0 ∧ OrdL lt (P ++ S) ∧ ∀ s ∈ S, lt x s = true
variable {lt d} {l0 l : List α} {i j : Nat}
theorem InvO.len (h : InvO lt l0 i l) : l.length = l0.length := h.choose_spec.choose_spec.2.2.1.length_eq
theorem InvI.len (h : InvI lt l0 i j l) : l.length = l0.length ∧ i < l.length ∧ j ≤ i := by
 obtain ⟨P, x, S, R, h1, h2, h3, h4, _⟩ := h
 refine ⟨h4.length_eq, ?_, by omega⟩
 rw [h1]; simp; omega
theorem InvO.one (l0 : List α) : InvO lt l0 1 l0 := by
 cases l0 with
 | nil => exact ⟨[], [], rfl, by simp, .refl _, .nil⟩
 | cons x r => exact ⟨[x], r, rfl, by simp, .refl _, List.pairwise_singleton _ _⟩
theorem InvO.start (h : InvO lt l0 i l) (hi : i < l.length) : InvI lt l0 i i l := by
 obtain ⟨P, R, h1, h2, h3, h4⟩ := h
 rw [Nat.min_eq_left (by omega)] at h2
 cases R with
 | nil => rw [h1] at hi; simp at hi; omega
 | cons x R => exact ⟨P, x, [], R, h1, h2, by simpa using h2, h3, by simpa using h4, by simp⟩
theorem snocOf {P : List α} (h : 0 < P.length) : ∃ Q y, P = Q ++ [y] := ⟨P.dropLast, P.getLast (by intro e; rw [e] at h; simp at h), (List.dropLast_concat_getLast _).symm⟩
theorem swap_eq {Q T : List α} {x y : α} : ((Q ++ y :: x :: T).set (Q.length + 1) y).set Q.length x = Q ++ x :: y :: T := by
 rw [List.set_append_right _ _ (by omega), show Q.length + 1 - Q.length = 1 by omega, List.set_append_right _ _ (by omega), Nat.sub_self]
 rfl
theorem at0 {Q T : List α} {y : α} : (Q ++ y :: T).getD Q.length d = y := by simp [List.getD_eq_getElem?_getD]
theorem at1 {Q T : List α} {x y : α} : (Q ++ y :: x :: T).getD (Q.length + 1) d = x := by
 simp [List.getD_eq_getElem?_getD, List.getElem?_append_right]
theorem InvI.next (ht : ∀ {a b c : α}, lt a b = true → lt b c = true → lt a c = true) (h : InvI lt l0 i j l) (hj : 0 < j) (hlt : lt (l.getD j d) (l.getD (j - 1) d) = true) :
  InvI lt l0 i (j - 1) ((l.set j (l.getD (j - 1) d)).set (j - 1) (l.getD j d)) := by
 obtain ⟨P, x, S, R, h1, h2, h3, h4, h5, h6⟩ := h
 obtain ⟨Q, y, rfl⟩ := snocOf (P := P) (by omega)
 have hl : l = Q ++ y :: x :: (S ++ R) := by rw [h1]; simp
 have hj' : j = Q.length + 1 := by rw [← h2]; simp
 subst hj'
 rw [hl] at hlt ⊢
 rw [at1, show Q.length + 1 - 1 = Q.length by omega, at0] at hlt
 rw [at1, show Q.length + 1 - 1 = Q.length by omega, at0, swap_eq]
 refine ⟨Q, x, y :: S, R, by simp, rfl, by simp at h3 ⊢; omega, ?_, by simpa using h5, ?_⟩
 ·rw [hl] at h4
  exact ((List.Perm.swap y x (S ++ R)).append_left Q).trans h4
 ·intro s hs
  rcases List.mem_cons.1 hs with rfl | hs
  ·exact hlt
  ·exact h6 s hs
theorem InvI.done (ha : ∀ {a b : α}, lt a b = true → lt b a = false) (hn : ∀ {a b c : α}, lt b a = false → lt c b = false → lt c a = false) (h : InvI lt l0 i j l) (hx : j = 0 ∨ lt (l.getD j d) (l.getD (j - 1) d) = false) : InvO lt l0 (i + 1) l := by
 obtain ⟨P, x, S, R, h1, h2, h3, h4, h5, h6⟩ := h
 refine ⟨P ++ x :: S, R, by rw [h1]; simp, by rw [h1]; simp; omega, h4, ?_⟩
 unfold OrdL at h5 ⊢
 obtain ⟨k1, k2, k3⟩ := List.pairwise_append.1 h5
 refine List.pairwise_append.2 ⟨k1, List.pairwise_cons.2 ⟨fun s hs => ha (h6 s hs), k2⟩, fun a hA b hb => ?_⟩
 rcases List.mem_cons.1 hb with rfl | hb
 ·rcases hx with hx | hx
  ·subst hx; rw [List.eq_nil_of_length_eq_zero h2] at hA; cases hA
  ·obtain ⟨Q, y, rfl⟩ := snocOf (P := P) (List.length_pos_of_mem hA)
   have hl : l = Q ++ y :: b :: (S ++ R) := by rw [h1]; simp
   have hj' : j = Q.length + 1 := by rw [← h2]; simp
   subst hj'
   rw [hl, at1, show Q.length + 1 - 1 = Q.length by omega, at0] at hx
   rcases List.mem_append.1 hA with hA | hA
   ·have := (List.pairwise_append.1 k1).2.2 a hA y (by simp)
    exact hn this hx
   ·simp at hA; subst hA; exact hx
 ·exact k3 a hA b hb
theorem InvO.all (h : InvO lt l0 i l) (hi : l.length ≤ i) : l.Perm l0 ∧ OrdL lt l := by
 obtain ⟨P, R, h1, h2, h3, h4⟩ := h
 rw [Nat.min_eq_right hi] at h2
 have : R = [] := by rw [h1] at h2; simpa using h2
 subst this
 rw [List.append_nil] at h1
 subst h1
 exact ⟨h3, h4⟩
end
end Go.Proofs.YtaaokimiadfidaaGreatDoor
namespace Go.Proofs.YtaaokimiadfidaaGreatDoor
open Go.RowKit
set_option linter.unusedVariables false
set_option linter.unusedSimpArgs false
theorem getDs {l : List Int} {i j : Nat} {x : Int} (hi : i < l.length) : (l.set i x).getD j 0 = if j = i then x else l.getD j 0 := by
 by_cases e : j = i
 ·subst e; simp [hi]
 ·rw [if_neg e, List.getD_eq_getElem?_getD, List.getElem?_set_ne (Ne.symm e), ← List.getD_eq_getElem?_getD]
end Go.Proofs.YtaaokimiadfidaaGreatDoor
namespace Go.Proofs
open Go.Shelf
def Tryz.sorted108_ren : Go.Shelf.Ren := ⟨fun | 6 => 108 | 8 => 231 | 9 => 40 | 11 => 303 | 13 => 143 | 12 => 142 | 23 => 254 | 24 => 255 | 14 => 246 | 15 => 247 | 16 => 248 | 17 => 249 | 18 => 250 | 19 => 251 | 20 => 171 | 21 => 252 | 22 => 253 | 25 => 316 | 26 => 317 | 27 => 318 | 28 => 319 | 29 => 320 | 30 => 275 | 31 => 379 | n => n, fun | 26 => 9 | 28 => 159 | 24 => 67 | 0 => 0 | 3 => 3 | 37 => 191 | 48 => 282 | 50 => 284 | 4 => 4 | 40 => 276 | 39 => 275 | 45 => 197 | 5 => 5 | 9 => 9 | 51 => 333 | 55 => 337 | 57 => 380 | 58 => 381 | 33 => 50 | n => n, fun | n => n⟩
theorem Tryz.sorted108 : Go.Proofs.SlLaysZ.n6 Tryz.prog Tryz.sorted108_ren := {
 mixed := by kernel_rfl
 f6 := ⟨Tryz.f108.name, by decide, Tryz.func108.trans (congrArg some (by kernel_rfl))⟩
 f8 := ⟨Tryz.f231.name, by decide, Tryz.func231.trans (congrArg some (by kernel_rfl))⟩
 f11 := ⟨Tryz.f303.name, by decide, Tryz.func303.trans (congrArg some (by kernel_rfl))⟩
 t0 := Tryz.underlying0
 a0 := Tryz.isAgg0
 z0 := Tryz.sizeOf0
 v0 := Tryz.zeroValue0
 t24 := Tryz.underlying67
 a24 := Tryz.isAgg67
 z24 := Tryz.sizeOf67
 v24 := Tryz.zeroValue67
 t26 := Tryz.underlying9
 a26 := Tryz.isAgg9
 z26 := Tryz.sizeOf9
 v26 := Tryz.zeroValue9
 t28 := Tryz.underlying159
 a28 := Tryz.isAgg159
 z28 := Tryz.sizeOf159
 v28 := Tryz.zeroValue159
 i26 := by kernel_rfl }
def Tryz.sort40_ren : Go.Shelf.Ren := ⟨fun | 6 => 40 | 8 => 143 | 9 => 142 | 19 => 254 | 20 => 255 | 21 => 246 | 22 => 247 | 23 => 248 | 24 => 249 | 25 => 250 | 26 => 251 | 27 => 171 | 28 => 252 | 29 => 253 | 36 => 316 | 31 => 317 | 32 => 318 | 37 => 319 | 38 => 320 | 39 => 275 | 41 => 379 | n => n, fun | 27 => 67 | 29 => 9 | 3 => 3 | 32 => 191 | 26 => 67 | 0 => 0 | 44 => 282 | 46 => 284 | 4 => 4 | 36 => 276 | 35 => 275 | 41 => 197 | 5 => 5 | 9 => 9 | 53 => 333 | 57 => 337 | 63 => 380 | 64 => 381 | n => n, fun | n => n⟩
theorem Tryz.sort40 : Go.Proofs.SlLaysM.n6 Tryz.prog Tryz.sort40_ren := {
 mixed := by kernel_rfl
 f6 := ⟨Tryz.f40.name, by decide, Tryz.func40.trans (congrArg some (by kernel_rfl))⟩
 f8 := Tryz.func143.trans (congrArg some (by kernel_rfl))
 f9 := ⟨Tryz.f142.name, by decide, Tryz.func142.trans (congrArg some (by kernel_rfl))⟩
 f19 := Tryz.func254.trans (congrArg some (by kernel_rfl))
 f20 := Tryz.func255.trans (congrArg some (by kernel_rfl))
 f21 := ⟨Tryz.f246.name, by decide, Tryz.func246.trans (congrArg some (by kernel_rfl))⟩
 f22 := ⟨Tryz.f247.name, by decide, Tryz.func247.trans (congrArg some (by kernel_rfl))⟩
 f23 := ⟨Tryz.f248.name, by decide, Tryz.func248.trans (congrArg some (by kernel_rfl))⟩
 f24 := ⟨Tryz.f249.name, by decide, Tryz.func249.trans (congrArg some (by kernel_rfl))⟩
 f25 := ⟨Tryz.f250.name, by decide, Tryz.func250.trans (congrArg some (by kernel_rfl))⟩
 f26 := ⟨Tryz.f251.name, by decide, Tryz.func251.trans (congrArg some (by kernel_rfl))⟩
 f27 := ⟨Tryz.f171.name, by decide, Tryz.func171.trans (congrArg some (by kernel_rfl))⟩
 f28 := ⟨Tryz.f252.name, by decide, Tryz.func252.trans (congrArg some (by kernel_rfl))⟩
 f29 := ⟨Tryz.f253.name, by decide, Tryz.func253.trans (congrArg some (by kernel_rfl))⟩
 f31 := Tryz.func317.trans (congrArg some (by kernel_rfl))
 f32 := Tryz.func318.trans (congrArg some (by kernel_rfl))
 f36 := ⟨Tryz.f316.name, by decide, Tryz.func316.trans (congrArg some (by kernel_rfl))⟩
 f37 := ⟨Tryz.f319.name, by decide, Tryz.func319.trans (congrArg some (by kernel_rfl))⟩
 f38 := ⟨Tryz.f320.name, by decide, Tryz.func320.trans (congrArg some (by kernel_rfl))⟩
 f39 := ⟨Tryz.f275.name, by decide, Tryz.func275.trans (congrArg some (by kernel_rfl))⟩
 f41 := ⟨Tryz.f379.name, by decide, Tryz.func379.trans (congrArg some (by kernel_rfl))⟩
 t0 := Tryz.underlying0
 a0 := Tryz.isAgg0
 z0 := Tryz.sizeOf0
 v0 := Tryz.zeroValue0
 t3 := Tryz.underlying3
 a3 := Tryz.isAgg3
 z3 := Tryz.sizeOf3
 v3 := Tryz.zeroValue3
 t4 := Tryz.underlying4
 a4 := Tryz.isAgg4
 z4 := Tryz.sizeOf4
 v4 := Tryz.zeroValue4
 t5 := Tryz.underlying5
 a5 := Tryz.isAgg5
 z5 := Tryz.sizeOf5
 v5 := Tryz.zeroValue5
 t9 := Tryz.underlying9
 a9 := Tryz.isAgg9
 z9 := Tryz.sizeOf9
 v9 := Tryz.zeroValue9
 t26 := Tryz.underlying67
 a26 := Tryz.isAgg67
 z26 := Tryz.sizeOf67
 v26 := Tryz.zeroValue67
 t27 := Tryz.underlying67
 a27 := Tryz.isAgg67
 z27 := Tryz.sizeOf67
 v27 := Tryz.zeroValue67
 t29 := Tryz.underlying9
 a29 := Tryz.isAgg9
 z29 := Tryz.sizeOf9
 v29 := Tryz.zeroValue9
 t32 := Tryz.underlying191
 a32 := Tryz.isAgg191
 z32 := Tryz.sizeOf191
 v32 := Tryz.zeroValue191
 t35 := Tryz.underlying275
 a35 := Tryz.isAgg275
 z35 := Tryz.sizeOf275
 v35 := Tryz.zeroValue275
 t36 := Tryz.underlying276
 a36 := Tryz.isAgg276
 z36 := Tryz.sizeOf276
 v36 := Tryz.zeroValue276
 t41 := Tryz.underlying197
 a41 := Tryz.isAgg197
 z41 := Tryz.sizeOf197
 v41 := Tryz.zeroValue197
 t44 := Tryz.underlying282
 a44 := Tryz.isAgg282
 z44 := Tryz.sizeOf282
 v44 := Tryz.zeroValue282
 t46 := Tryz.underlying284
 a46 := Tryz.isAgg284
 z46 := Tryz.sizeOf284
 v46 := Tryz.zeroValue284
 t53 := Tryz.underlying333
 a53 := Tryz.isAgg333
 z53 := Tryz.sizeOf333
 v53 := Tryz.zeroValue333
 t57 := Tryz.underlying337
 a57 := Tryz.isAgg337
 z57 := Tryz.sizeOf337
 v57 := Tryz.zeroValue337
 t63 := Tryz.underlying380
 a63 := Tryz.isAgg380
 z63 := Tryz.sizeOf380
 v63 := Tryz.zeroValue380
 t64 := Tryz.underlying381
 a64 := Tryz.isAgg381
 z64 := Tryz.sizeOf381
 v64 := Tryz.zeroValue381 }
def Tryz.keys197_ren : Go.Shelf.Ren := ⟨fun | 7 => 197 | 10 => 285 | n => n, fun | 23 => 100 | 26 => 9 | 3 => 3 | 28 => 159 | 0 => 0 | 27 => 158 | 33 => 50 | 4 => 4 | n => n, fun | n => n⟩
theorem Tryz.keys197 : Go.Proofs.SlLaysZ.n7 Tryz.prog Tryz.keys197_ren := {
 mixed := by kernel_rfl
 f7 := ⟨Tryz.f197.name, by decide, Tryz.func197.trans (congrArg some (by kernel_rfl))⟩
 f10 := ⟨Tryz.f285.name, by decide, Tryz.func285.trans (congrArg some (by kernel_rfl))⟩
 t0 := Tryz.underlying0
 a0 := Tryz.isAgg0
 z0 := Tryz.sizeOf0
 v0 := Tryz.zeroValue0
 t4 := Tryz.underlying4
 a4 := Tryz.isAgg4
 z4 := Tryz.sizeOf4
 v4 := Tryz.zeroValue4
 t23 := Tryz.underlying100
 a23 := Tryz.isAgg100
 z23 := Tryz.sizeOf100
 v23 := Tryz.zeroValue100
 t26 := Tryz.underlying9
 a26 := Tryz.isAgg9
 z26 := Tryz.sizeOf9
 v26 := Tryz.zeroValue9
 t27 := Tryz.underlying158
 a27 := Tryz.isAgg158
 z27 := Tryz.sizeOf158
 v27 := Tryz.zeroValue158
 t28 := Tryz.underlying159
 a28 := Tryz.isAgg159
 z28 := Tryz.sizeOf159
 v28 := Tryz.zeroValue159
 t33 := Tryz.underlying50
 a33 := Tryz.isAgg50
 z33 := Tryz.sizeOf50
 v33 := Tryz.zeroValue50 }
end Go.Proofs
namespace Go.Proofs.YtaaokimiadfidaaGreatDoor
open Go.RowKit Go.Maps Go.Sort Go.Shelf
set_option linter.unusedVariables false
set_option linter.unusedSimpArgs false

def bytesOf (l : List UInt8) : ByteArray := ⟨l.toArray⟩
def sKeys {α : Type} (l : List (ByteArray × α)) : List ByteArray := ((l.map fun p => p.1.data.toList).mergeSort (fun x y => decide (x ≤ y))).map bytesOf
theorem sKeys_len {α : Type} (l : List (ByteArray × α)) : (sKeys l).length = l.length := by simp [sKeys]
theorem mput_keys {α : Type} (l : List (ByteArray × α)) (k : ByteArray) (x : α) : (mput l k x).map (·.1) = if mpos l k < l.length then l.map (·.1) else l.map (·.1) ++ [k] := by
 split
 ·rename_i h
  rw [mput_old l k x h, List.map_set]
  have := mpos_key l k h
  refine List.ext_getElem (by simp) fun i h1 h2 => ?_
  simp only [List.length_set, List.length_map] at h1
  rw [List.getElem_set]
  split
  ·rename_i e; subst e; simp [this]
  ·simp
 ·rename_i h
  rw [mput_new l k x (by have := mpos_le l k; omega)]; simp
theorem mpos_mem {α : Type} {l : List (ByteArray × α)} {k : ByteArray} : mpos l k < l.length ↔ k ∈ l.map (·.1) := by
 constructor
 ·intro h; exact List.mem_map.2 ⟨_, List.getElem_mem h, mpos_key l k h⟩
 ·intro h
  obtain ⟨p, hp, e⟩ := List.mem_map.1 h
  obtain ⟨j, hj, ej⟩ := List.getElem_of_mem hp
  by_cases h1 : mpos l k < l.length
  ·exact h1
  ·have hle := mpos_le l k
   obtain ⟨_, h2⟩ := mpos_ne l k j (by omega)
   exact absurd (by rw [ej]; exact e) h2
theorem mput_nodup {α : Type} {l : List (ByteArray × α)} (h : (l.map (·.1)).Nodup) (k : ByteArray) (x : α) : ((mput l k x).map (·.1)).Nodup := by
 rw [mput_keys]
 split
 ·exact h
 ·rename_i h1
  rw [mpos_mem] at h1
  exact List.nodup_append.2 ⟨h, by simp, fun a ha b hb => by simp at hb; subst hb; exact fun e => h1 (e ▸ ha)⟩
theorem mput_mem {α : Type} {l : List (ByteArray × α)} {k : ByteArray} {x : α} {q : ByteArray} : q ∈ (mput l k x).map (·.1) ↔ q ∈ l.map (·.1) ∨ q = k := by
 rw [mput_keys]
 split
 ·rename_i h1
  rw [mpos_mem] at h1
  exact ⟨.inl, fun h => h.elim id fun e => e ▸ h1⟩
 ·simp

section
variable {P : Program} {w : World} {kt : TypeId}
theorem own_of_mapE {α : Type} {E : α → AV} {g : Nat} {l : List (ByteArray × α)} {Z : Nat → Prop} (hk : P.underlying kt = some .string) (h : EntR w Z (mapE (fun k : ByteArray => Value.string k) g E l)) (hnd : (l.map (·.1)).Nodup) (hs : ∀ p ∈ l, p.1.size ≤ maxLen) (hl : l.length ≤ maxLen) :
  ∃ D : DataW Unit, w.ownsMap P kt (fun _ => some (.nil, [])) g l.length D ∧ Maps.size D = l.length ∧ (strKeys D).Perm (l.map fun p => p.1.data.toList) := by
 obtain ⟨c, h1, h2, h3⟩ := h.toMap
 have hmem : ∀ x ∈ c.toList, ∃ j, ∃ hj : j < l.length, x = c[j]! := fun x hx => by
  obtain ⟨j, hj, rfl⟩ := List.getElem_of_mem hx
  simp at hj
  exact ⟨j, by omega, by rw [getElem!_pos c j hj]; simp⟩
 have hrd : ∀ x ∈ c.toList, ∀ j (hj : j < l.length), x = c[j]! → WideElems.rd (H := Unit) P kt (fun _ => some (.nil, [])) x = some (.string (l[j]).1.data.toList, .nil) := fun x hx j hj e => by
  have hk1 := (h3 j hj).1
  obtain ⟨key, val, born⟩ := x
  have : key = .string (l[j]).1 := by rw [← hk1, ← e]
  subst this
  exact WideElems.rd_mk (R := fun _ => some (.nil, [])) (yv := (.nil, [])) (Go.WideMaps.keyOf_string_mk hk (hs _ (List.getElem_mem hj))) rfl
 have hF : WideElems.Fit (H := Unit) P kt (fun _ => some (.nil, [])) c l.length := ⟨by omega, (MapKept.stamped_iff _ _).2 ⟨fun x hx => by
   obtain ⟨j, hj, rfl⟩ := hmem x hx
   rw [(h3 j hj).2.1]; exact hj, by
   have : c.toList.map (·.born) = List.range' 0 l.length := by
    refine List.ext_getElem (by simp [h2]) fun i k1 k2 => ?_
    simp at k1
    have := (h3 i (by omega)).2.1
    rw [getElem!_pos c i k1] at this
    simp [this]
   rw [this]; exact List.nodup_range', by
   rw [List.pairwise_iff_getElem]
   intro i j hi hj hij e
   simp at hi hj
   have k1 := (h3 i (by omega)).1
   have k2 := (h3 j (by omega)).1
   rw [getElem!_pos c i hi] at k1
   rw [getElem!_pos c j hj] at k2
   simp only [Array.getElem_toList] at e
   rw [k1, k2] at e
   have e' : (l[i]'(by omega)).1 = (l[j]'(by omega)).1 := by injection e
   have := (List.pairwise_iff_getElem.1 hnd) i j (by simp; omega) (by simp; omega) hij
   simp at this
   exact this e'⟩, fun x hx => by
   obtain ⟨j, hj, e⟩ := hmem x hx
   exact ⟨_, hrd x hx j hj e⟩⟩
 refine ⟨_, ⟨c, l.length, h1, hF, by omega, rfl⟩, ?_, ?_⟩
 ·simp [Maps.size, (WideShapes.sorted_perm _).length_eq, h2]
 ·have hp := (WideShapes.sorted_perm (c.toList.map (WideElems.rg (H := Unit) P kt fun _ => some (.nil, []))))
  refine (hp.map (fun p => Go.strOf p.1)).trans (.of_eq ?_)
  refine List.ext_getElem (by simp [h2]) fun i k1 k2 => ?_
  simp at k1 k2
  have := hrd (c[i]!) (by rw [getElem!_pos c i (by omega)]; simp) i (by omega) rfl
  rw [getElem!_pos c i (by omega)] at this
  simp [WideElems.rg_of this]
  rfl
end

section
theorem sortsK (m : Nat) : AnyZ.SortsIn Tryz.prog Tryz.sorted108_ren Fence.wide m :=
  ⟨fun blk off cap ss W hH hblk hsz => callsIn_wide.2 (AnyM.slices_Sort_string Tryz.sort40 blk off cap ss W hH hblk hsz),
   fun p cap W => callsIn_wide.2 (AnyM.slices_Sort_string_none Tryz.sort40 p cap W)⟩
theorem maps_Keys_int (mb : Option Nat) : SpecH Tryz.prog 197 [.v (.map mb)] [] (fun y hp' => ∃ g, y = .v (.func (.func 285) #[] #[.pointer (some ⟨g, 0, none⟩)]) ∧ hp' = [.box g ⟨[.v (.map mb)], 100, 1⟩]) := fun w A us ha _ _ _ => by
 have hu : us = #[.map mb] := by
  have h0 := ha.2 0 (by simp)
  have h1 : us.size = 1 := ha.1
  have h2 := h0.eq_v
  apply Array.ext (by simp [h1])
  intro i hi1 hi2
  obtain rfl : i = 0 := by omega
  rw [Array.getD_eq_getD_getElem?, Array.getElem?_eq_getElem (by omega)] at h2
  simpa using h2
 subst hu
 refine ((callsIn_wide (n := 5)).1 (AnyZ.keys_in Tryz.keys197 Fence.wide 5 trivial rfl mb w)).mono ?_
 rintro e w' ⟨rfl, rfl⟩
 refine ⟨_, _, _, ⟨w.heap.size, rfl, rfl⟩, rfl, List.pairwise_singleton _ _, .v _, fun e he => ?_, fun b ⟨e, he, hb⟩ hl => ?_, ((Chg.refl NoB w).alloc _).any⟩
 ·simp at he; subst he
  exact ⟨_, heap_alloc_new w _, rfl, Nat.le_refl _, fun j hj => by simp at hj; subst hj; exact ⟨_, rfl, .v _⟩⟩
 ·simp at he; subst he
  simp [Ent.blk] at hb; omega
set_option maxHeartbeats 1000000 in
theorem slices_Sorted_int {α : Type} {E : α → AV} {g mg : Nat} {l : List (ByteArray × α)} (hnd : (l.map (·.1)).Nodup) (hs : ∀ p ∈ l, p.1.size ≤ maxLen) (hl : l.length ≤ 1000000) :
    SpecH Tryz.prog 108 [.v (.func (.func 285) #[] #[.pointer (some ⟨g, 0, none⟩)])] [.box g ⟨[.v (.map (some mg))], 100, 1⟩, mapE (fun k : ByteArray => Value.string k) mg E l]
      (fun y hp' => ∃ u, y = .v u ∧ hp' = [.row u l.length 1 (strsL (sKeys l)) 9, .box g ⟨[.v (.map (some mg))], 100, 1⟩, mapE (fun k : ByteArray => Value.string k) mg E l]) := fun w A us ha hap hA hE => by
  have hu : us = #[.func (.func 285) #[] #[.pointer (some ⟨g, 0, none⟩)]] := by
    have h0 := ha.2 0 (by simp)
    have h1 : us.size = 1 := ha.1
    have h2 := h0.eq_v
    apply Array.ext (by simp [h1])
    intro i hi1 hi2
    obtain rfl : i = 0 := by omega
    rw [Array.getD_eq_getD_getElem?, Array.getElem?_eq_getElem (by omega)] at h2
    simpa using h2
  subst hu
  have hB := hE _ (List.mem_cons_self ..)
  have hM := hE _ (List.mem_cons_of_mem _ (List.mem_cons_self ..))
  obtain ⟨c, b1, b2, b3, b4⟩ := hB
  have hc : c = #[.map (some mg)] := by
    obtain ⟨u, q1, q2⟩ := b4 0 (by simp)
    have := q2.eq_v
    simp at b2 this
    apply Array.ext (by simp [b2])
    intro i hi1 hi2
    obtain rfl : i = 0 := by omega
    rw [Array.getElem?_eq_getElem (by omega)] at q1
    cases q1
    simpa using this
  subst hc
  have hlen : l.length ≤ maxLen := by simp only [maxLen]; omega
  obtain ⟨D, d1, d2, d3⟩ := own_of_mapE (kt := 9) Tryz.underlying9 hM hnd hs hlen
  have hgl : g < w.heap.size := (Array.getElem?_eq_some_iff.1 b1).1
  have hcell : w.cell? ⟨g, 0, none⟩ = some (.map (some mg)) := by simp [World.cell?, b1]
  have hseq : SeqGives Fence.wide 2 Tryz.prog 285 #[.pointer (some ⟨g, 0, none⟩)] encStr (fun ss => ss.Perm (strKeys D)) (Maps.size D) w :=
    AnyZ.keys_gives (ρ := Tryz.keys197_ren) { Tryz.keys197 with } Fence.wide _ trivial rfl (by omega) g mg l.length D _ hgl hcell d1
  have hsz : Maps.size D ≤ maxLen := by rw [d2]; exact hlen
  have hby : Maps.size D * 16 ≤ 140737488355328 := by rw [d2]; omega
  refine ((callsIn_wide (n := 5)).1 (AnyZ.sorted_in Tryz.sorted108 Fence.wide 5 trivial trivial trivial trivial rfl (by omega) (sortsK _) (enters_of Tryz.func40 (by kernel_rfl) rfl) 285 #[.pointer (some ⟨g, 0, none⟩)] trivial (enters_of Tryz.func285 (by kernel_rfl) rfl) _ _ hsz hby _ hseq)).mono ?_
  rintro e w' ⟨v, ss, rfl, hS, hrow, hnil, hb⟩
  have hS' : ss.Perm (l.map fun p => p.1.data.toList) := hS.trans d3
  have hssl : ss.length = l.length := by simpa using hS'.length_eq
  have hkeys : (ss.mergeSort (fun x y => decide (x ≤ y))).map encStr = (sKeys l).map fun k => Value.string k := by
    have := mergeSort_of_perm hS'
    unfold leB at this
    rw [this, sKeys, List.map_map]
    rfl
  rw [hkeys] at hrow
  have hchg : Chg NoB w w' := (Chg.ofBelow hb).mono fun k h1 h2 => absurd h1 (Nat.not_lt.2 h2)
  obtain ⟨r1, r2⟩ := hrow
  have hZ : ∀ b, b < w.heap.size ∧ A b → Zh w A [.box g ⟨[.v (.map (some mg))], 100, 1⟩, mapE (fun k : ByteArray => Value.string k) mg E l] [.row v l.length 1 (strsL (sKeys l)) 9, .box g ⟨[.v (.map (some mg))], 100, 1⟩, mapE (fun k : ByteArray => Value.string k) mg E l] w' b := fun b ⟨hb1, hb2⟩ => by
    refine ⟨Nat.lt_of_lt_of_le hb1 hchg.size, fun ⟨e, he, heb⟩ => ?_, fun _ => .inl hb2⟩
    rcases List.mem_cons.1 he with rfl | he
    · rcases r2 with ⟨rfl, _⟩ | ⟨g2, cap, cur, rfl, hge, _⟩
      · simp [Ent.blk, Value.ownBlock] at heb
      · simp [Ent.blk, Value.ownBlock] at heb; omega
    · exact hA b ⟨e, he, heb⟩ hb2
  have hold : ∀ e ∈ [Ent.box g ⟨[.v (.map (some mg))], 100, 1⟩, mapE (fun k : ByteArray => Value.string k) mg E l], ∀ b, e.blk = some b → b < w.heap.size := fun e he b heb => by
    rcases List.mem_cons.1 he with rfl | he
    · simp [Ent.blk] at heb; omega
    · simp at he; subst he
      simp [Ent.blk] at heb
      obtain ⟨c2, k1, _⟩ := hM
      have := (Array.getElem?_eq_some_iff.1 k1).1
      omega
  refine ⟨_, _, _, ⟨v, rfl, rfl⟩, rfl, ?_, .v _, fun e he => ?_, fun b ⟨e, he, heb⟩ hl => ?_, hchg.any⟩
  · refine List.pairwise_cons.2 ⟨fun q hq b h1 h2 => ?_, hap⟩
    rcases r2 with ⟨rfl, _⟩ | ⟨g2, cap, cur, rfl, hge, _⟩
    · simp [Ent.blk, Value.ownBlock] at h1
    · simp [Ent.blk, Value.ownBlock] at h1
      have := hold q hq b h2
      omega
  · rcases List.mem_cons.1 he with rfl | he
    · refine ⟨by simp [strsL, sKeys_len], ?_⟩
      rcases r2 with ⟨rfl, hz⟩ | ⟨g2, cap, cur, rfl, hge, k1, k2, k3, k4, k5⟩
      · exact .inl ⟨rfl, by omega⟩
      · refine .inr ⟨g2, cap, cur, by rw [hssl], by omega, k3, k1, k4, fun j hj => ?_⟩
        have hj' : j < (sKeys l).length := by simpa [strsL] using hj
        have hcur : cur[j]? = some (.string ((sKeys l)[j])) := by
          have := congrArg (fun z => z[j]?) k5
          simp only [List.getElem?_map, List.getElem?_eq_getElem hj', Option.map_some] at this
          rw [List.getElem?_take] at this
          split at this
          · simpa using this
          · cases this
        exact ⟨_, hcur, by simp only [strsL, List.getElem_map]; exact .v _⟩
    · exact (hE e he).keep (fun b hb _ => ⟨hchg.block b hb.1 (fun h => h), hZ b hb⟩) fun b hb => hchg.block b (hold e he b hb) (fun h => h)
  · rcases List.mem_cons.1 he with rfl | he
    · rcases r2 with ⟨rfl, _⟩ | ⟨g2, cap, cur, rfl, hge, _⟩
      · simp [Ent.blk, Value.ownBlock] at heb
      · simp [Ent.blk, Value.ownBlock] at heb; omega
    · exact ⟨e, he, heb⟩
end
end Go.Proofs.YtaaokimiadfidaaGreatDoor
namespace Go.Proofs.YtaaokimiadfidaaGreatDoor
open Go.RowKit
set_option linter.unusedVariables false
set_option linter.unusedSimpArgs false

structure PlaceS where
 name : ByteArray
 part : ByteArray
 x : Int
 y : Int
 quarter : Int
instance : Inhabited PlaceS := ⟨⟨ByteArray.empty, ByteArray.empty, 0, 0, 0⟩⟩
instance : Sxc PlaceS where
 k := 5
 pos := by decide
 cell m j := match j with
  | 0 => avS m.name
  | 1 => avS m.part
  | 2 => avI m.x
  | 3 => avI m.y
  | 4 => avI m.quarter
  | _ => .any
structure ProdS where
 key : ByteArray
 wide : Int
 high : Int
 places : List PlaceS
instance : Inhabited ProdS := ⟨⟨ByteArray.empty, 0, 0, []⟩⟩
abbrev avProd (p : ProdS) : AV := .agg [avS p.key, avI p.wide, avI p.high, avL p.places]
abbrev boxProd (g : Nat) (p : ProdS) (ty : TypeId) : Ent := .box g ⟨[avS p.key, avI p.wide, avI p.high, avL p.places], ty, 4⟩
structure SmP (p : ProdS) : Prop where
 key : p.key.size ≤ 1000000
 len : p.places.length ≤ 1000000
 name : ∀ i, (p.places.getD i default).name.size ≤ 1000000
 part : ∀ i, (p.places.getD i default).part.size ≤ 1000000
def placeE (p : ProdS) (i : Nat) : Int :=
 if (keyF (p.places.getD i default).name && keyF (p.places.getD i default).part) = false then 5
 else if (decide (0 < i) && sLe (p.places.getD i default).name (p.places.getD (i - 1) default).name) = true then 7
 else if (outR (p.places.getD i default).x 0 p.wide || (outR (p.places.getD i default).y 0 p.high || outR (p.places.getD i default).quarter 0 3)) = true then 1
 else 0
def prodF (p : ProdS) : Int :=
 if keyF p.key = false then 5
 else if (outR p.wide 1 500000 || outR p.high 1 500000) = true then 1
 else if 1000 < p.places.length then 2
 else firstE (placeE p) p.places.length
section
variable {p : ProdS} {i : Nat}
theorem placeE_5a (h : keyF (p.places.getD i default).name = false) : placeE p i = 5 := by rw [placeE, if_pos (by rw [h]; rfl)]
theorem placeE_5b (h : keyF (p.places.getD i default).part = false) : placeE p i = 5 := by rw [placeE, if_pos (by rw [h, Bool.and_false])]
theorem placeE_7 (h1 : keyF (p.places.getD i default).name = true) (h2 : keyF (p.places.getD i default).part = true) (hi : 0 < i) (hs : sLe (p.places.getD i default).name (p.places.getD (i - 1) default).name = true) : placeE p i = 7 := by
 rw [placeE, if_neg (by rw [h1, h2]; simp), if_pos (by rw [hs, decide_eq_true hi]; rfl)]
theorem placeE_x (h1 : keyF (p.places.getD i default).name = true) (h2 : keyF (p.places.getD i default).part = true) (hs : i = 0 ∨ sLe (p.places.getD i default).name (p.places.getD (i - 1) default).name = false) :
  placeE p i = if (outR (p.places.getD i default).x 0 p.wide || (outR (p.places.getD i default).y 0 p.high || outR (p.places.getD i default).quarter 0 3)) = true then 1 else 0 := by
 rw [placeE, if_neg (by rw [h1, h2]; simp), if_neg]
 rcases hs with rfl | hs
 ·simp
 ·rw [hs]; simp
theorem placeE_1 (h1 : keyF (p.places.getD i default).name = true) (h2 : keyF (p.places.getD i default).part = true) (hs : i = 0 ∨ sLe (p.places.getD i default).name (p.places.getD (i - 1) default).name = false)
  (ho : (outR (p.places.getD i default).x 0 p.wide || (outR (p.places.getD i default).y 0 p.high || outR (p.places.getD i default).quarter 0 3)) = true) : placeE p i = 1 := by rw [placeE_x h1 h2 hs, if_pos ho]
theorem placeE_0 (h1 : keyF (p.places.getD i default).name = true) (h2 : keyF (p.places.getD i default).part = true) (hs : i = 0 ∨ sLe (p.places.getD i default).name (p.places.getD (i - 1) default).name = false)
  (ho : (outR (p.places.getD i default).x 0 p.wide || (outR (p.places.getD i default).y 0 p.high || outR (p.places.getD i default).quarter 0 3)) = false) : placeE p i = 0 := by rw [placeE_x h1 h2 hs, if_neg (by rw [ho]; simp)]
theorem prodF_5 (h : keyF p.key = false) : prodF p = 5 := by rw [prodF, if_pos h]
theorem prodF_1 (h : keyF p.key = true) (h1 : (outR p.wide 1 500000 || outR p.high 1 500000) = true) : prodF p = 1 := by rw [prodF, if_neg (by rw [h]; simp), if_pos h1]
theorem prodF_2 (h : keyF p.key = true) (h1 : (outR p.wide 1 500000 || outR p.high 1 500000) = false) (h2 : 1000 < p.places.length) : prodF p = 2 := by rw [prodF, if_neg (by rw [h]; simp), if_neg (by rw [h1]; simp), if_pos h2]
theorem prodF_x (h : keyF p.key = true) (h1 : (outR p.wide 1 500000 || outR p.high 1 500000) = false) (h2 : p.places.length ≤ 1000) : prodF p = firstE (placeE p) p.places.length := by rw [prodF, if_neg (by rw [h]; simp), if_neg (by rw [h1]; simp), if_neg (by omega)]
theorem prodF_at (h : keyF p.key = true) (h1 : (outR p.wide 1 500000 || outR p.high 1 500000) = false) (h2 : p.places.length ≤ 1000) {q : Nat} (hq : q < p.places.length) (hn : ∀ j, j < q → placeE p j = 0) {e : Int} (he : placeE p q = e) (h0 : e ≠ 0) : prodF p = e := by
 rw [prodF_x h h1 h2, firstE_found hn (by rw [he]; exact h0) hq, he]
theorem prodF_ok (h : keyF p.key = true) (h1 : (outR p.wide 1 500000 || outR p.high 1 500000) = false) (h2 : p.places.length ≤ 1000) (hn : ∀ j, j < p.places.length → placeE p j = 0) : prodF p = 0 := by
 rw [prodF_x h h1 h2, firstE_none hn]
end
structure ProdOk (p : ProdS) : Prop where
 key : keyF p.key = true
 wide : 1 ≤ p.wide ∧ p.wide ≤ 500000
 high : 1 ≤ p.high ∧ p.high ≤ 500000
 len : p.places.length ≤ 1000
 all : ∀ j, j < p.places.length → placeE p j = 0
theorem prodOk {p : ProdS} (h : prodF p = 0) : ProdOk p := by
 unfold prodF at h
 split at h
 ·cases h
 ·rename_i h1
  split at h
  ·cases h
  ·rename_i h2
   split at h
   ·cases h
   ·rename_i h3
    have h2' : (outR p.wide 1 500000 || outR p.high 1 500000) = false := by simpa using h2
    simp only [outR, Bool.or_eq_false_iff, decide_eq_false_iff_not] at h2'
    exact ⟨by simpa using h1, by omega, by omega, by omega, firstE_zero h⟩
def cntP (l : List PlaceS) : List (ByteArray × Int) := l.foldl (fun m x => mput m x.part (mgetD m x.part 0 + 1)) []
theorem cntP_snoc (l : List PlaceS) (x : PlaceS) : cntP (l ++ [x]) = mput (cntP l) x.part (mgetD (cntP l) x.part 0 + 1) := by simp [cntP]
theorem take_snocD {α : Type} {l : List α} {q : Nat} (h : q < l.length) (d : α) : l.take (q + 1) = l.take q ++ [l.getD q d] := by
 rw [List.take_add_one, List.getD_eq_getElem?_getD, List.getElem?_eq_getElem h]; rfl
theorem cntP_take {l : List PlaceS} {q : Nat} (h : q < l.length) : cntP (l.take (q + 1)) = mput (cntP (l.take q)) (l.getD q default).part (mgetD (cntP (l.take q)) (l.getD q default).part 0 + 1) := by
 rw [take_snocD h default, cntP_snoc]
theorem mget_mput {α : Type} : ∀ (l : List (ByteArray × α)) (k k' : ByteArray) (x : α), mget (mput l k x) k' = if k' = k then some x else mget l k'
 | [], k, k', x => by simp [mput, mget]
 | p :: r, k, k', x => by
  by_cases e : k = p.1
  ·subst e
   simp only [mput, if_true, mget]
   by_cases e2 : k' = p.1
   ·simp [e2]
   ·simp [e2]
  ·simp only [mput, if_neg e, mget]
   by_cases e2 : k' = p.1
   ·rw [if_pos e2, if_neg (fun h => e (h.symm.trans e2))]; simp [e2]
   ·rw [if_neg e2, mget_mput r k k' x]; simp [e2]
theorem mgetD_mput {α : Type} (l : List (ByteArray × α)) (k k' : ByteArray) (x z : α) : mgetD (mput l k x) k' z = if k' = k then x else mgetD l k' z := by
 unfold mgetD; rw [mget_mput]; split <;> rfl
theorem cntP_count : ∀ (l : List PlaceS) (m : List (ByteArray × Int)) (k : ByteArray), mgetD (l.foldl (fun m x => mput m x.part (mgetD m x.part 0 + 1)) m) k 0 = mgetD m k 0 + (l.filter fun x => decide (x.part = k)).length
 | [], m, k => by simp
 | x :: l, m, k => by
  rw [List.foldl_cons, cntP_count l, mgetD_mput]
  by_cases e : k = x.part
  ·subst e; simp; omega
  ·rw [if_neg e, List.filter_cons_of_neg (by simp; exact fun h => e h.symm)]
theorem cntP_get (l : List PlaceS) (k : ByteArray) : mgetD (cntP l) k 0 = (l.filter fun x => decide (x.part = k)).length := by
 rw [cntP, cntP_count]; simp [mgetD, mget]
theorem cntP_bd (l : List PlaceS) (k : ByteArray) : 0 ≤ mgetD (cntP l) k 0 ∧ mgetD (cntP l) k 0 ≤ l.length := by
 rw [cntP_get]
 have := List.length_filter_le (fun x : PlaceS => decide (x.part = k)) l
 omega
theorem cntP_nodup' : ∀ (l : List PlaceS) (m : List (ByteArray × Int)), (m.map (·.1)).Nodup → ((l.foldl (fun m x => mput m x.part (mgetD m x.part 0 + 1)) m).map (·.1)).Nodup
 | [], m, h => h
 | x :: l, m, h => cntP_nodup' l _ (mput_nodup h _ _)
theorem cntP_nodup (l : List PlaceS) : ((cntP l).map (·.1)).Nodup := cntP_nodup' l [] List.nodup_nil
theorem cntP_mem' : ∀ (l : List PlaceS) (m : List (ByteArray × Int)) (k : ByteArray), k ∈ (l.foldl (fun m x => mput m x.part (mgetD m x.part 0 + 1)) m).map (·.1) ↔ k ∈ m.map (·.1) ∨ ∃ x ∈ l, x.part = k
 | [], m, k => by simp
 | x :: l, m, k => by
  rw [List.foldl_cons, cntP_mem' l, mput_mem, or_assoc]
  simp only [List.mem_cons, exists_eq_or_imp]
  exact ⟨fun h => h.elim .inl fun h => h.elim (fun h => .inr (.inl h.symm)) fun h => .inr (.inr h), fun h => h.elim .inl fun h => h.elim (fun h => .inr (.inl h.symm)) fun h => .inr (.inr h)⟩
theorem cntP_mem {l : List PlaceS} {k : ByteArray} : k ∈ (cntP l).map (·.1) ↔ ∃ x ∈ l, x.part = k := by rw [cntP, cntP_mem']; simp
theorem cntP_len (l : List PlaceS) : (cntP l).length ≤ l.length := by
 unfold cntP
 have : ∀ (l : List PlaceS) (m : List (ByteArray × Int)), (l.foldl (fun m x => mput m x.part (mgetD m x.part 0 + 1)) m).length ≤ m.length + l.length := by
  intro l
  induction l with
  | nil => intro m; simp
  | cons x l ih =>
   intro m
   have := ih (mput m x.part (mgetD m x.part 0 + 1))
   have h2 := mput_len m x.part (mgetD m x.part 0 + 1)
   simp only [List.foldl_cons, List.length_cons]
   split at h2 <;> omega
 simpa using this l []
def needsL (p : ProdS) : List NeedS := (sKeys (cntP p.places)).map fun k => ⟨k, mgetD (cntP p.places) k 0⟩
def needsR (p : ProdS) : List NeedS := if prodF p = 0 then needsL p else []
theorem needsL_len (p : ProdS) : (needsL p).length = (cntP p.places).length := by simp [needsL, sKeys_len]
end Go.Proofs.YtaaokimiadfidaaGreatDoor
namespace Go.Proofs.YtaaokimiadfidaaGreatDoor
open Go.RowKit
set_option linter.unusedVariables false
set_option linter.unusedSimpArgs false
theorem mxl_ge : ∀ (xs : List Int) (m : Int), m ≤ maxF m xs ∧ ∀ x ∈ xs, x ≤ maxF m xs
 | [], m => ⟨Int.le_refl _, fun x h => by simp at h⟩
 | x :: r, m => by
  obtain ⟨h2, h3⟩ := mxl_ge r (max m x)
  rw [maxF]
  refine ⟨by omega, fun y hy => ?_⟩
  rcases List.mem_cons.1 hy with rfl | hy
  ·omega
  ·exact h3 y hy
theorem mxl_le {v : Int} : ∀ {xs : List Int} {m : Int}, m ≤ v → (∀ x ∈ xs, x ≤ v) → maxF m xs ≤ v
 | [], m, h, _ => h
 | x :: r, m, h, h2 => by
  rw [maxF]
  exact mxl_le (by have := h2 x (List.mem_cons_self ..); omega) fun y hy => h2 y (List.mem_cons_of_mem _ hy)
theorem maxL_iff {xs : List Int} (h : 0 < xs.length) (v : Int) : maxL xs ≤ v ↔ ∀ x ∈ xs, x ≤ v := by
 cases xs with
 | nil => simp at h
 | cons x r =>
  show maxF x r ≤ v ↔ _
  have h2 := mxl_ge r x
  constructor
  ·intro hv y hy
   rcases List.mem_cons.1 hy with rfl | hy
   ·omega
   ·have := h2.2 y hy; omega
  ·intro hv; exact mxl_le (hv x (List.mem_cons_self ..)) fun y hy => hv y (List.mem_cons_of_mem _ hy)
theorem tabI_mem {n : Nat} {f : Nat → Int} {x : Int} : x ∈ tabI n f ↔ ∃ k, k < n ∧ f k = x := by
 unfold tabI; rw [List.mem_map]
 exact ⟨fun ⟨k, h, e⟩ => ⟨k, List.mem_range.1 h, e⟩, fun ⟨k, h, e⟩ => ⟨k, List.mem_range.2 h, e⟩⟩
theorem maxL_tab {n : Nat} {f : Nat → Int} (hn : 0 < n) (h0 : ∀ k, 0 ≤ f k) : maxL (tabI n f) = mxK f n := by
 have hl : 0 < (tabI n f).length := by rw [tabI_len]; exact hn
 have h1 := (maxL_iff hl (maxL (tabI n f))).1 (Int.le_refl _)
 have hf : ∀ k, k < n → f k ≤ maxL (tabI n f) := fun k hk => h1 _ (tabI_mem.2 ⟨k, hk, rfl⟩)
 refine Int.le_antisymm ?_ (mxK_up (Int.le_trans (h0 0) (hf 0 hn)) hf)
 refine (maxL_iff hl _).2 fun x hx => ?_
 obtain ⟨k, hk, rfl⟩ := tabI_mem.1 hx
 exact (mxK_le (mxK_nn _ _)).1 (Int.le_refl _) k hk
section
variable {ms : List Mach} {ns : List NeedS}
theorem plB_in {pl : List Int} {k r : Nat} (h : r < pl.length) : plB pl k r = decide (pl.getD r 0 = (k : Int)) := by
 unfold plB; rw [decide_eq_true h, Bool.true_and]
theorem cyc_tim {pl : List Int} {k : Nat} : ∀ r, r ≤ pl.length → cyc ms ns pl k r = timB (ms.getD k default) ns (plB pl k) r
 | 0, _ => rfl
 | r + 1, h => by
  rw [cyc, timB, cyc_tim r (by omega), plB_in (by omega)]
  by_cases e : pl.getD r 0 = (k : Int)
  ·rw [if_pos e, if_pos (decide_eq_true e)]
  ·rw [if_neg e, if_neg (by rw [decide_eq_false e]; simp)]
theorem cnt_num {pl : List Int} {k : Nat} : ∀ r, r ≤ pl.length → cnt pl k r = (numB (plB pl k) r : Int)
 | 0, _ => rfl
 | r + 1, h => by
  rw [cnt, numB, cnt_num r (by omega), plB_in (by omega)]
  by_cases e : pl.getD r 0 = (k : Int)
  ·rw [if_pos e, if_pos (decide_eq_true e)]; rfl
  ·rw [if_neg e, if_neg (by rw [decide_eq_false e]; simp)]; rfl
theorem numB_mono (b : Nat → Bool) {r : Nat} : ∀ {t : Nat}, r ≤ t → numB b r ≤ numB b t
 | 0, h => by rw [show r = 0 by omega]; exact Nat.le_refl _
 | t + 1, h => by
  by_cases e : r = t + 1
  ·rw [e]; exact Nat.le_refl _
  ·have := numB_mono b (t := t) (r := r) (by omega)
   rw [numB]; omega
def InP (ms : List Mach) (pl : List Int) : Prop := ∀ i, i < pl.length → ∃ k : Nat, pl.getD i 0 = (k : Int) ∧ k < ms.length
structure VPlan (ms : List Mach) (ns : List NeedS) (pl : List Int) : Prop where
 len : pl.length = ns.length
 inp : InP ms pl
 ok : okP ms ns pl
theorem planF_valid (hm : machF ms = 0) {pl : List Int} : planF ms ns pl = 0 ↔ VPlan ms ns pl := by
 constructor
 ·intro h
  obtain ⟨hl, hE⟩ := planF_zero h
  refine ⟨hl, fun i hi => planE_ok (hE i hi), fun k hk => okB_iff.2 fun i hi => ?_⟩
  have hover : cnt pl k pl.length ≤ (ms.getD k default).feeders := by
   rw [planF, if_neg (by omega), firstE_none hE, if_neg (by decide)] at h
   have := firstE_zero h k hk
   unfold overE at this
   split at this
   ·cases this
   ·omega
  unfold okA
  rw [plB_in (by omega)]
  by_cases e : pl.getD i 0 = (k : Int)
  ·have hE' := hE i (by omega)
   unfold planE at hE'
   split at hE'
   ·cases hE'
   ·split at hE'
    ·cases hE'
    ·rename_i h1 h2
     rw [e, Int.toNat_natCast] at h2
     have h3 := numB_mono (plB pl k) (show i + 1 ≤ pl.length by omega)
     rw [cnt_num pl.length (Nat.le_refl _)] at hover
     have h4 : hasK (ms.getD k default) (ns.getD i default).key = true := by simpa using h2
     have h5 : decide (((numB (plB pl k) (i + 1) : Nat) : Int) ≤ (ms.getD k default).feeders) = true := decide_eq_true (by omega)
     rw [h4, h5]; cases decide (pl.getD i 0 = (k : Int)) <;> rfl
  ·rw [decide_eq_false e]; rfl
 ·rintro ⟨hl, hi, hok⟩
  refine planF_0 hl (fun j hj => ?_) fun k hk => ?_
  ·obtain ⟨k, e, hk⟩ := hi j hj
   refine planE_0 (by omega) ?_
   rw [e, Int.toNat_natCast]
   have := okB_iff.1 (hok k hk) j (by omega)
   unfold okA at this
   rw [plB_in hj, decide_eq_true e] at this
   simp [-List.getD_eq_getElem?_getD] at this
   exact this.1
  ·rw [cnt_num _ (Nat.le_refl _)]
   have hf := (machF_each hm hk).1.2.2.1
   have key : ∀ r, r ≤ ns.length → (numB (plB pl k) r : Int) ≤ (ms.getD k default).feeders := by
    intro r
    induction r with
    | zero => intro _; exact hf
    | succ r ih =>
     intro hr
     have := okB_iff.1 (hok k hk) r (by omega)
     unfold okA at this
     cases hb : plB pl k r with
     | true =>
      rw [hb] at this
      simp [-List.getD_eq_getElem?_getD] at this
      exact this.2
     | false => rw [numB, hb]; have := ih (by omega); simp [-List.getD_eq_getElem?_getD]; exact this
   exact key _ (by omega)
theorem MnOk.mk' (hm : machF ms = 0) (hn : needsF ns 1 1000 = 0) : MnOk ms ns := by
 refine ⟨fun k => ?_, fun k => ?_, fun i => ?_, needsF_len hn⟩
 ·by_cases hk : k < ms.length
  ·exact (machF_each hm hk).1.2.1
  ·rw [List.getD_eq_getElem?_getD, List.getElem?_eq_none (by omega)]; exact ⟨Int.le_refl _, by decide⟩
 ·by_cases hk : k < ms.length
  ·exact (machF_each hm hk).1.1
  ·rw [List.getD_eq_getElem?_getD, List.getElem?_eq_none (by omega)]; exact ⟨Int.le_refl _, by decide⟩
 ·by_cases hi : i < ns.length
  ·have := needsF_count hn hi; omega
  ·rw [List.getD_eq_getElem?_getD, List.getElem?_eq_none (by omega)]; exact ⟨Int.le_refl _, by decide⟩
theorem slowC_mx (hM : MnOk ms ns) (h0 : 0 < ms.length) {pl : List Int} (hl : pl.length = ns.length) : slowC ms ns pl = mxT ms ns pl := by
 unfold slowC cycL mxT
 rw [hl, maxL_tab h0]
 ·exact mxK_congr fun k _ => cyc_tim _ (by omega)
 ·intro k
  rw [cyc_tim _ (by omega)]
  exact (timB_in hM k _ _).1
theorem snoc_in {pl : List Int} (h : InP ms pl) {c : Nat} (hc : c < ms.length) : InP ms (pl ++ [(c : Int)]) := fun i hi => by
 by_cases e : i < pl.length
 ·rw [List.getD_eq_getElem?_getD, List.getElem?_append_left e, ← List.getD_eq_getElem?_getD]; exact h i e
 ·have : i = pl.length := by simp at hi; omega
  subst this
  exact ⟨c, by simp, hc⟩
theorem grd_spec (hM : MnOk ms ns) : ∀ (d : Nat) (pl : List Int), pl.length + d = ns.length → bstV ms ns d pl < neverC → InP ms pl → (grd ms ns d pl).length = ns.length ∧ InP ms (grd ms ns d pl) ∧ mxC ms ns (grd ms ns d pl) = bstV ms ns d pl
 | 0, pl, hl, _, hi => ⟨by rw [grd]; omega, hi, rfl⟩
 | d + 1, pl, hl, hv, hi => by
  rw [bstV] at hv
  obtain ⟨k, hk, e⟩ := mnK_at hv
  obtain ⟨s1, s2, s3⟩ := fsK_spec (fun k : Nat => bstV ms ns d (pl ++ [(k : Int)])) (bstV ms ns (d + 1) pl) ms.length
  have hlt : fsK (fun k : Nat => bstV ms ns d (pl ++ [(k : Int)])) (bstV ms ns (d + 1) pl) ms.length < ms.length := Classical.byContradiction fun hn => s2 k (by omega) e
  have e2 := s3 hlt
  have ih := grd_spec hM d (pl ++ [((fsK (fun k : Nat => bstV ms ns d (pl ++ [(k : Int)])) (bstV ms ns (d + 1) pl) ms.length : Nat) : Int)]) (by simp; omega) (by rw [e2]; exact hv) (snoc_in hi hlt)
  rw [grd]
  exact ⟨ih.1, ih.2.1, ih.2.2.trans e2⟩
theorem grd_ok (hM : MnOk ms ns) (h : bstV ms ns ns.length [] < neverC) : VPlan ms ns (grd ms ns ns.length []) ∧ mxT ms ns (grd ms ns ns.length []) = bstV ms ns ns.length [] := by
 obtain ⟨h1, h2, h3⟩ := grd_spec hM ns.length [] (by simp) h (fun i hi => absurd hi (Nat.not_lt_zero i))
 have hok : okP ms ns (grd ms ns ns.length []) := fun k hk => by
  have hc : cycB (ms.getD k default) ns (plB (grd ms ns ns.length []) k) ≤ mxC ms ns (grd ms ns ns.length []) := (mxK_le (mxK_nn _ _)).1 (Int.le_refl _) k hk
  unfold cycB at hc
  split at hc
  ·assumption
  ·omega
 exact ⟨⟨h1, h2, hok⟩, by rw [← mxC_ok hok]; exact h3⟩
theorem cnt_set {g : List Int} {i k j : Nat} (hi : i < g.length) (h : g.getD i 0 = -1) : ∀ r, cnt (g.set i (k : Int)) j r = cnt g j r + if i < r ∧ k = j then 1 else 0
 | 0 => by simp [cnt]
 | r + 1 => by
  rw [cnt, cnt, cnt_set hi h r]
  by_cases e : r = i
  ·subst e
   have e1 : (g.set r (k : Int)).getD r 0 = (k : Int) := by simp [hi]
   rw [e1, h, if_neg (by omega : ¬ ((-1 : Int) = (j : Int))), if_neg (show ¬ (r < r ∧ k = j) by omega)]
   by_cases e2 : k = j
   ·subst e2; rw [if_pos rfl, if_pos ⟨by omega, rfl⟩]
   ·rw [if_neg (by omega), if_neg (by omega)]
  ·have e1 : (g.set i (k : Int)).getD r 0 = g.getD r 0 := by
    rw [List.getD_eq_getElem?_getD, List.getElem?_set_ne (Ne.symm e), ← List.getD_eq_getElem?_getD]
   rw [e1]
   simp only [show (i < r + 1 ∧ k = j) ↔ (i < r ∧ k = j) by omega]
   generalize (if i < r ∧ k = j then (1 : Int) else 0) = X
   omega
structure FstI (ms : List Mach) (ns : List NeedS) (l : List Int) (q : Nat) (g : List Int) : Prop where
 len : g.length = ns.length
 el : ∀ i, i < ns.length → (g.getD i 0 = -1 ∧ (i : Int) ∉ l.take q) ∨ ((i : Int) ∈ l.take q ∧ ∃ k : Nat, g.getD i 0 = (k : Int) ∧ k < ms.length ∧ hasK (ms.getD k default) (ns.getD i default).key = true)
 feed : ∀ k, k < ms.length → cnt g k g.length ≤ (ms.getD k default).feeders
theorem cnt_none (n : Nat) (k : Nat) : ∀ r, r ≤ n → cnt (List.replicate n (-1)) k r = 0
 | 0, _ => rfl
 | r + 1, h => by
  rw [cnt, cnt_none n k r (by omega), show (List.replicate n (-1 : Int)).getD r 0 = -1 by simp [show r < n by omega], if_neg (by omega)]; rfl
theorem FstI.zero (hm : machF ms = 0) (l : List Int) : FstI ms ns l 0 (List.replicate ns.length (-1)) :=
 ⟨by simp, fun i hi => .inl ⟨by simp [hi], by simp⟩, fun k hk => by rw [List.length_replicate, cnt_none _ _ _ (Nat.le_refl _)]; exact (machF_each hm hk).1.2.2.1⟩
theorem FstI.none {l g : List Int} {q i : Nat} (h : FstI ms ns l q g) (hd : l.Nodup) (hq : q < l.length) (hi : l.getD q 0 = (i : Int)) (hin : i < ns.length) : g.getD i 0 = -1 := by
 rcases h.el i hin with e | ⟨e, _⟩
 ·exact e.1
 ·exfalso
  obtain ⟨j, hj, e2⟩ := List.getElem_of_mem e
  rw [List.length_take] at hj
  rw [List.getElem_take] at e2
  rw [List.getD_eq_getElem?_getD, List.getElem?_eq_getElem hq] at hi
  have : j = q := (List.getElem_inj hd).1 (e2.trans (by simpa using hi.symm))
  omega
theorem FstI.step {l g : List Int} {q i k : Nat} (h : FstI ms ns l q g) (hd : l.Nodup) (hq : q < l.length) (hi : l.getD q 0 = (i : Int)) (hin : i < ns.length) (hk : k < ms.length) (h1 : hasK (ms.getD k default) (ns.getD i default).key = true) (h2 : cnt g k g.length < (ms.getD k default).feeders) : FstI ms ns l (q + 1) (g.set i (k : Int)) := by
 have hn := h.none hd hq hi hin
 have hil : i < g.length := by rw [h.len]; exact hin
 have htk : l.take (q + 1) = l.take q ++ [(i : Int)] := by rw [take_snocD hq 0, hi]
 refine ⟨by rw [List.length_set]; exact h.len, fun j hj => ?_, fun j hj => ?_⟩
 ·rw [htk]
  by_cases e : j = i
  ·subst e
   exact .inr ⟨by simp, k, by simp [hil], hk, h1⟩
  ·have e1 : (g.set i (k : Int)).getD j 0 = g.getD j 0 := by
    rw [List.getD_eq_getElem?_getD, List.getElem?_set_ne (Ne.symm e), ← List.getD_eq_getElem?_getD]
   rw [e1]
   rcases h.el j hj with h3 | ⟨h3, h4⟩
   ·exact .inl ⟨h3.1, fun hm => (List.mem_append.1 hm).elim h3.2 fun hm => by simp at hm; omega⟩
   ·exact .inr ⟨List.mem_append.2 (.inl h3), h4⟩
 ·rw [List.length_set, cnt_set hil hn]
  have := h.feed j hj
  by_cases e : k = j
  ·subst e; rw [if_pos ⟨hil, rfl⟩]; omega
  ·rw [if_neg (by omega)]; omega
end
end Go.Proofs.YtaaokimiadfidaaGreatDoor
namespace Go.Proofs.YtaaokimiadfidaaGreatDoor
open Go.RowKit
set_option linter.unusedVariables false
set_option linter.unusedSimpArgs false
structure SetI (r : Nat) (F : Nat → Int) (l : List Int) : Prop where
 len : l.length = r + 1
 at_ : ∀ s, SubN s r → l.getD s 0 = F s
structure SetG (r cur : Nat) (F : Nat → Int) (l : List Int) : Prop where
 len : l.length = r + 1
 sub : SubN cur r
 at_ : ∀ s, SubN s r → cur < s → l.getD s 0 = F s
section
variable {r cur : Nat} {F : Nat → Int} {l : List Int}
theorem SetG.lt (h : SetG r cur F l) : cur < l.length := by have := h.sub.le; have := h.len; omega
theorem SetG.start (h : l.length = r + 1) : SetG r r F l := ⟨h, SubN.refl r, fun s hs hlt => by have := hs.le; omega⟩
theorem SetG.next {x : Int} (h : SetG r cur F l) (h0 : cur ≠ 0) (hx : x = F cur) : SetG r ((cur - 1) &&& r) F (l.set cur x) :=
  ⟨by rw [List.length_set]; exact h.len, SubN.and_ _ _, fun s hs hlt => by
    rw [getDs h.lt]
    by_cases e : s = cur
    · rw [if_pos e, e, hx]
    · rw [if_neg e]
      refine h.at_ s hs (Classical.byContradiction fun hn => ?_)
      have := sub_next cur s r hs h.sub (by omega)
      omega⟩
theorem SetG.last {x : Int} (h : SetG r cur F l) (h0 : cur = 0) (hx : x = F cur) : SetI r F (l.set cur x) :=
 ⟨by rw [List.length_set]; exact h.len, fun s hs => by
  rw [getDs h.lt]
  by_cases e : s = cur
  ·rw [if_pos e, e, hx]
  ·rw [if_neg e]; exact h.at_ s hs (by omega)⟩
end
structure MinI (F : Nat → Int) (set cur : Nat) (v : Int) : Prop where
 sub : SubN cur set
 lo : 0 ≤ v
 hi : v ≤ neverC
 iff : ∀ x, 0 ≤ x → x < neverC → (v ≤ x ↔ ∃ t, SubN t set ∧ cur < t ∧ F t ≤ x)
section
variable {F : Nat → Int} {set cur : Nat} {v : Int}
theorem MinI.start (F : Nat → Int) (set : Nat) : MinI F set set neverC := ⟨SubN.refl _, by decide, Int.le_refl _, fun x h0 hx => ⟨fun h => by omega, fun ⟨t, h1, h2, _⟩ => by have := h1.le; omega⟩⟩
theorem MinI.next (h : MinI F set cur v) (hF : 0 ≤ F cur) (h0 : cur ≠ 0) : MinI F set ((cur - 1) &&& set) (min v (F cur)) :=
 ⟨SubN.and_ _ _, by have := h.lo; omega, by have := h.hi; omega, fun x hx0 hx => by
  have h1 := h.iff x hx0 hx
  constructor
  ·intro hm
   by_cases e : F cur ≤ x
   ·exact ⟨cur, h.sub, sub_dec h0, e⟩
   ·obtain ⟨t, t1, t2, t3⟩ := h1.1 (by omega)
    exact ⟨t, t1, by have := sub_dec (r := set) h0; omega, t3⟩
  ·rintro ⟨t, t1, t2, t3⟩
   by_cases e : t = cur
   ·subst e; omega
   ·by_cases e2 : cur < t
    ·have := h1.2 ⟨t, t1, e2, t3⟩; omega
    ·have := sub_next cur t set t1 h.sub (by omega); omega⟩
theorem MinI.last (h : MinI F set cur v) (hF : ∀ t, 0 ≤ F t) (h0 : cur = 0) : min v (F cur) = mnS F set := by
 have hl := h.lo
 have hh := h.hi
 have hc := hF cur
 refine eq_of_le (by omega) (mnS_never _ _) (by omega) (mnS_nn hF _) fun x hx0 hx => ?_
 rw [mnS_iff hx]
 have h1 := h.iff x hx0 hx
 constructor
 ·intro hm
  by_cases e : F cur ≤ x
  ·exact ⟨cur, h.sub, e⟩
  ·obtain ⟨t, t1, t2, t3⟩ := h1.1 (by omega)
   exact ⟨t, t1, t3⟩
 ·rintro ⟨t, t1, t3⟩
  by_cases e : t = cur
  ·subst e; omega
  ·have := h1.2 ⟨t, t1, by omega, t3⟩; omega
end
section
variable {ms : List Mach} {ns : List NeedS} {fx : Nat → Nat}
def mxBA (ms : List Mach) (ns : List NeedS) (fx : Nat → Nat) (k set t : Nat) : Int := max (belS ms ns fx k (ndiff set t)) (alnS ms ns fx k t)
theorem alnS_in (h : MnOk ms ns) (k t : Nat) : 0 ≤ alnS ms ns fx k t ∧ alnS ms ns fx k t ≤ neverC := cycB_in h k _
theorem mxBA_nn (h : MnOk ms ns) (k set t : Nat) : 0 ≤ mxBA ms ns fx k set t := by have := (alnS_in (fx := fx) h k t).1; unfold mxBA; omega
theorem SubN.of_sub {t set r : Nat} (h : SubN set r) : SubN (ndiff set t) r := (SubN.diff set t).trans h
theorem okB_no {m : Mach} {b : Nat → Bool} {i : Nat} (hi : i < ns.length) (h : okA m ns b i = false) : cycB m ns b = neverC := by
 unfold cycB
 rw [if_neg]
 intro h2
 rw [okB_iff.1 h2 i hi] at h; cases h
theorem okB_all {m : Mach} {b : Nat → Bool} (h : ∀ i, i < ns.length → okA m ns b i = true) : cycB m ns b = timB m ns b ns.length := by
 unfold cycB; rw [if_pos (okB_iff.2 h)]
end
end Go.Proofs.YtaaokimiadfidaaGreatDoor
namespace Go.Proofs.YtaaokimiadfidaaGreatDoor
open Go.RowKit
set_option linter.unusedVariables false
set_option linter.unusedSimpArgs false
section
variable {ms : List Mach} {ns : List NeedS}
def balE (ms : List Mach) (ns : List NeedS) : Int := if faultF ms ns ≠ 0 then faultF ms ns else if 12 < ns.length then 2 else 0
def balOk (ms : List Mach) (ns : List NeedS) : Bool := decide (balE ms ns = 0) && decide (bstV ms ns ns.length [] < neverC)
def balL (ms : List Mach) (ns : List NeedS) : List Int := if balOk ms ns = true then grd ms ns ns.length [] else []
def balV (ms : List Mach) (ns : List NeedS) : Int := if balOk ms ns = true then bstV ms ns ns.length [] else 0
theorem grd_next {pl : List Int} {d k : Nat} (hk : k < ms.length) (h : bstV ms ns d (pl ++ [(k : Int)]) = bstV ms ns (d + 1) pl) (hn : ∀ j, j < k → bstV ms ns d (pl ++ [(j : Int)]) ≠ bstV ms ns (d + 1) pl) : grd ms ns (d + 1) pl = grd ms ns d (pl ++ [(k : Int)]) := by
 rw [grd, fsK_eq hk h hn]
theorem grd_some {pl : List Int} {d : Nat} (h : bstV ms ns (d + 1) pl < neverC) (hn : ∀ j, j < ms.length → bstV ms ns d (pl ++ [(j : Int)]) ≠ bstV ms ns (d + 1) pl) : False := by
 obtain ⟨k, hk, e⟩ := mnK_at (F := fun k => bstV ms ns d (pl ++ [(k : Int)])) (K := ms.length) h
 exact hn k hk e
end
end Go.Proofs.YtaaokimiadfidaaGreatDoor
namespace Go.Proofs.YtaaokimiadfidaaGreatDoor
open Go.RowKit
set_option linter.unusedVariables false
set_option linter.unusedSimpArgs false
theorem ofInt64 (a : Nat) (ha : a < 9223372036854775808) : (BitVec.ofInt 64 (a : Int)).toNat = a := by
 rw [BitVec.ofInt_natCast, BitVec.toNat_ofNat]; exact Nat.mod_eq_of_lt (by omega)
theorem wrap64 (a : Nat) (ha : a < 9223372036854775808) : IntKind.i64.wrap (a : Int) = (a : Int) := IntWalk.i64_in _ (by omega)
theorem i64_and (a b : Nat) (ha : a < 9223372036854775808) (hb : b < 9223372036854775808) : Op.intBits .and .i64 (a : Int) (b : Int) = pure (.int .i64 ((a &&& b : Nat) : Int)) := by
 have hx : a &&& b < 2 ^ 63 := Nat.and_lt_two_pow _ (by omega)
 show pure (Value.int .i64 (IntKind.i64.wrap ((BitVec.ofInt 64 (a : Int) &&& BitVec.ofInt 64 (b : Int)).toNat : Int))) = _
 rw [BitVec.toNat_and, ofInt64 a ha, ofInt64 b hb, wrap64 _ (by omega)]
theorem i64_or (a b : Nat) (ha : a < 9223372036854775808) (hb : b < 9223372036854775808) : Op.intBits .or .i64 (a : Int) (b : Int) = pure (.int .i64 ((a ||| b : Nat) : Int)) := by
 have hx : a ||| b < 2 ^ 63 := Nat.or_lt_two_pow (by omega) (by omega)
 show pure (Value.int .i64 (IntKind.i64.wrap ((BitVec.ofInt 64 (a : Int) ||| BitVec.ofInt 64 (b : Int)).toNat : Int))) = _
 rw [BitVec.toNat_or, ofInt64 a ha, ofInt64 b hb, wrap64 _ (by omega)]
theorem i64_andNot (a b : Nat) (ha : a < 9223372036854775808) (hb : b < 9223372036854775808) : Op.intBits .andNot .i64 (a : Int) (b : Int) = pure (.int .i64 ((ndiff a b : Nat) : Int)) := by
 have hx : ndiff a b < 2 ^ 63 := Nat.xor_lt_two_pow (by omega) (Nat.lt_of_le_of_lt Nat.and_le_left (by omega))
 have e : (BitVec.ofInt 64 (a : Int) &&& ~~~BitVec.ofInt 64 (b : Int)).toNat = ndiff a b := by
  refine Nat.eq_of_testBit_eq fun i => ?_
  rw [ndiff_bit, BitVec.toNat_and, Nat.testBit_and, ofInt64 a ha, BitVec.testBit_toNat, BitVec.getLsbD_not, ← BitVec.testBit_toNat, ofInt64 b hb]
  cases h : a.testBit i with
  | false => rfl
  | true =>
   have hi : i < 64 := by
    refine Classical.byContradiction fun hn => ?_
    have := Nat.testBit_lt_two_pow (x := a) (i := i) (Nat.lt_of_lt_of_le (show a < 2 ^ 63 by omega) (Nat.pow_le_pow_right (by decide) (by omega)))
    rw [this] at h; cases h
   simp [hi]
 show pure (Value.int .i64 (IntKind.i64.wrap ((BitVec.ofInt 64 (a : Int) &&& ~~~BitVec.ofInt 64 (b : Int)).toNat : Int))) = _
 rw [e, wrap64 _ (by omega)]
section
variable {P : Program} {B : Bs} {W : Nat → Prop} {s : St'} {o : Oper} {t u : TypeId} {x y : Operand} {a b : Nat}
theorem OpV.band (ho : o.op = .binOp .and t x y u) (hx : evO s x = some (.v (.int .i64 (a : Int)))) (hy : evO s y = some (.v (.int .i64 (b : Int)))) (ha : a < 9223372036854775808) (hb : b < 9223372036854775808) : OpV P B W s o (avI ((a &&& b : Nat) : Int)) :=
 OpV.conc (fun a' w hr w' hcw => by simp [execOp, ho, hr.evv hx, hr.evv hy, eqGuard, binOp, i64_and a b ha hb])
theorem OpV.bor (ho : o.op = .binOp .or t x y u) (hx : evO s x = some (.v (.int .i64 (a : Int)))) (hy : evO s y = some (.v (.int .i64 (b : Int)))) (ha : a < 9223372036854775808) (hb : b < 9223372036854775808) : OpV P B W s o (avI ((a ||| b : Nat) : Int)) :=
 OpV.conc (fun a' w hr w' hcw => by simp [execOp, ho, hr.evv hx, hr.evv hy, eqGuard, binOp, i64_or a b ha hb])
theorem OpV.bdiff (ho : o.op = .binOp .andNot t x y u) (hx : evO s x = some (.v (.int .i64 (a : Int)))) (hy : evO s y = some (.v (.int .i64 (b : Int)))) (ha : a < 9223372036854775808) (hb : b < 9223372036854775808) : OpV P B W s o (avI ((ndiff a b : Nat) : Int)) :=
 OpV.conc (fun a' w hr w' hcw => by simp [execOp, ho, hr.evv hx, hr.evv hy, eqGuard, binOp, i64_andNot a b ha hb])
theorem OpV.bshl1 {k : IntKind} (ho : o.op = .binOp .shl t x y u) (hx : evO s x = some (.v (.int .i64 1))) (hy : evO s y = some (.v (.int k (b : Int)))) (hb : b ≤ 62) : OpV P B W s o (avI ((2 ^ b : Nat) : Int)) :=
 OpV.conc (fun a' w hr w' hcw => by
  have h1 : (2 : Nat) ^ b ≤ 2 ^ 62 := Nat.pow_le_pow_right (by decide) hb
  have e : IntKind.i64.wrap (1 * 2 ^ (min ((b : Int).toNat) IntKind.i64.bits)) = ((2 ^ b : Nat) : Int) := by
   rw [show min ((b : Int).toNat) IntKind.i64.bits = b from Nat.min_eq_left (by show b ≤ 64; omega), Int.one_mul, show ((2 : Int) ^ b) = ((2 ^ b : Nat) : Int) by simp]
   exact wrap64 _ (by omega)
  have h0 : ¬ ((b : Int) < 0) := by omega
  simp only [execOp, ho, hr.evv hx, hr.evv hy, eqGuard, binOp, Op.shift, if_neg h0, e]
  simp)
theorem OpV.bshr {k : IntKind} (ho : o.op = .binOp .shr t x y u) (hx : evO s x = some (.v (.int .i64 (a : Int)))) (hy : evO s y = some (.v (.int k (b : Int)))) (hb : b ≤ 62) : OpV P B W s o (avI ((a / 2 ^ b : Nat) : Int)) :=
 OpV.conc (fun a' w hr w' hcw => by
  have e : (a : Int).fdiv (2 ^ (min ((b : Int).toNat) IntKind.i64.bits)) = ((a / 2 ^ b : Nat) : Int) := by
   rw [show min ((b : Int).toNat) IntKind.i64.bits = b from Nat.min_eq_left (by show b ≤ 64; omega), Int.fdiv_eq_ediv_of_nonneg _ (Int.pow_nonneg (by decide)), show ((2 : Int) ^ b) = ((2 ^ b : Nat) : Int) by simp, Int.natCast_ediv]
  have h0 : ¬ ((b : Int) < 0) := by omega
  simp only [execOp, ho, hr.evv hx, hr.evv hy, eqGuard, binOp, Op.shift, if_neg h0, e]
  simp)
end
end Go.Proofs.YtaaokimiadfidaaGreatDoor
namespace Go.Proofs.YtaaokimiadfidaaGreatDoor
open Go.RowKit
set_option linter.unusedVariables false
set_option linter.unusedSimpArgs false
set_option maxRecDepth 100000 in
theorem line_can {m : Mach} {v : ByteArray} (hl : m.can.length ≤ 1000000000) (hs : SortS m.can) :
  SpecN Tryz.prog 179 [avT m, avS v] (fun y => y = avB (hasK m v)) := by
 refine SpecN.of_VCN Tryz.func179 rfl Tryz.ntmps179 (Nle rfl) fun w A hB => ?_
 have hnew : True := trivial
 refine VC.sr ?_
 refine VO.op rfl (OpE.box rfl hB rfl rfl rfl ?_)
 intro g2
 refine VO.ma rfl rfl rfl rfl ?_
 refine VO.nil ?_
 refine VC.sr ?_
 refine VO.val rfl rfl (OpV.fieldAddrO 4 rfl Tryz.underlying128 rfl rfl Tryz.sizeOf67 rfl) ?_
 refine VO.val rfl rfl (OpV.load_own (i := 0) rfl hB Tryz.isAgg67 rfl rfl rfl (fun h => h)) ?_
 refine VO.mv rfl rfl rfl rfl ?_
 refine VO.op rfl (OpE.call rfl hB rfl Tryz.call280 rfl (slices_BinarySearch_str hl hs) ?_)
 rintro _ ⟨n11, rfl⟩
 refine VO.mv rfl rfl rfl rfl ?_
 refine VO.val rfl rfl (OpV.extract rfl rfl rfl) ?_
 refine VO.val rfl rfl (OpV.extract rfl rfl rfl) ?_
 refine VO.ma rfl rfl rfl rfl ?_
 refine VO.ma rfl rfl rfl rfl ?_
 refine VO.nil ?_
 refine VC.sr ?_
 refine VO.mv rfl rfl rfl rfl ?_
 refine VO.ma rfl rfl rfl rfl ?_
 refine VO.nil ?_
 refine VC.ret ?_
 exact Exists.intro _ (And.intro (RetN.one Tryz.results179 (ResN.v rfl)) (rfl))
set_option maxRecDepth 100000 in
theorem line_planFault {ms : List Mach} {ns : List NeedS} {plan : List Int} (hm : machF ms = 0) (hn : ns.length ≤ 1000000000) (hp : plan.length ≤ 1000000000) :
  SpecN Tryz.prog 193 [avL ms, avL ns, avInts plan] (fun y => y = avI (planF ms ns plan)) := by
 have hlen := machF_len hm
 have hfe := fun k (hk : k < ms.length) => (machF_each hm hk).1.2.2.1
 refine SpecN.of_VCN Tryz.func193 rfl Tryz.ntmps193 (Nle rfl) fun w A hB => ?_
 have hnew : True := trivial
 refine VC.sr ?_
 refine VO.ma rfl rfl rfl rfl ?_
 refine VO.nil ?_
 refine VC.seq ?_
 refine VC.sr ?_
 refine VO.mv rfl rfl rfl rfl ?_
 refine VO.val rfl rfl (OpV.len_im rfl Tryz.underlying22 rfl) ?_
 refine VO.mv rfl rfl rfl rfl ?_
 refine VO.val rfl rfl (OpV.len_im rfl Tryz.underlying77 rfl) ?_
 refine VO.val rfl rfl (OpV.neq rfl rfl rfl) ?_
 refine VO.nil ?_
 refine VC.cond rfl (fun aH1b => ?_) (fun aH1b => ?_)
 ·have aH1 := aH1b
  try simp only [qqT, qqF, qqN, qqM, qqL, qqE] at aH1
  refine VC.sr ?_
  refine VO.ma rfl rfl rfl rfl ?_
  refine VO.nil ?_
  refine VC.ret ?_
  exact Exists.intro _ (And.intro (RetN.one Tryz.results193 (ResN.v rfl)) (by rw [planF_3 (by omega)]))
 ·have aH1 := aH1b
  try simp only [qqT, qqF, qqN, qqM, qqL, qqE] at aH1
  refine VC.skip ?_
  refine VC.seq ?_
  refine VC.sr ?_
  refine VO.mv rfl rfl rfl rfl ?_
  refine VO.val rfl rfl (OpV.len_im rfl Tryz.underlying22 rfl) ?_
  refine VO.mv rfl rfl rfl rfl ?_
  refine VO.nil ?_
  refine VC.block ?_
  refine VC.loopK [] trivial ({q : Nat // q ≤ plan.length ∧ ∀ j, j < q → planE ms ns plan j = 0}) (fun (iZ : {q : Nat // q ≤ plan.length ∧ ∀ j, j < q → planE ms ns plan j = 0}) => match iZ with | ⟨q, hq, he⟩ => [(0, avL ms), (1, avL ns), (2, avInts plan), (17, avInts plan), (18, avI plan.length), (19, avI (q : Int))]) (fun (iZ : {q : Nat // q ≤ plan.length ∧ ∀ j, j < q → planE ms ns plan j = 0}) => match iZ with | ⟨q, hq, he⟩ => []) (fun (iZ : {q : Nat // q ≤ plan.length ∧ ∀ j, j < q → planE ms ns plan j = 0}) => match iZ with | ⟨q, hq, he⟩ => 0) (fun (iZ : {q : Nat // q ≤ plan.length ∧ ∀ j, j < q → planE ms ns plan j = 0}) => match iZ with | ⟨q, hq, he⟩ => plan.length - q) ⟨0, Nat.zero_le _, fun j hj => absurd hj (Nat.not_lt_zero j)⟩ (Le.mk hB [] ⟨rfl, rfl, rfl, rfl, rfl, rfl, trivial⟩ rfl rfl (Nat.le_refl _)) ?_
  rintro ⟨q, hq, he⟩
  show VC _ _ _ _ ⟨[(0, avL ms), (1, avL ns), (2, avInts plan), (17, avInts plan), (18, avI plan.length), (19, avI (q : Int))] ++ [], [], 0⟩
  refine VC.sr ?_
  refine VO.val rfl rfl (OpV.lss rfl rfl rfl) ?_
  refine VO.nil ?_
  refine VC.seq ?_
  refine VC.cond rfl (fun aH2b => ?_) (fun aH2b => ?_)
  ·have aH2 := aH2b
   try simp only [qqT, qqF, qqN, qqM, qqL, qqE] at aH2
   refine VC.skip ?_
   refine VC.seq ?_
   refine VC.block ?_
   refine VC.sr ?_
   refine VO.mv rfl rfl rfl rfl ?_
   refine VO.val rfl rfl (OpV.indexAddr_1 rfl Tryz.underlying22 Tryz.sizeOf3 rfl rfl rfl (by omega)) ?_
   refine VO.val rfl rfl (OpV.load_at rfl hB OutW.no Tryz.isAgg3 rfl rfl) ?_
   refine VO.ma rfl rfl rfl rfl ?_
   refine VO.ma rfl rfl rfl rfl ?_
   refine VO.nil ?_
   refine VC.seq ?_
   refine VC.sr ?_
   refine VO.mv rfl rfl rfl rfl ?_
   refine VO.val rfl rfl (OpV.lss rfl rfl rfl) ?_
   refine VO.mv rfl rfl rfl rfl ?_
   refine VO.opG rfl rfl rfl rfl (fun aK3b => ?_) (fun aK3b => ?_)
   ·replace aK3b : _ = false := aK3b
    have aK3 := aK3b
    try simp only [qqT, qqF, qqN, qqM, qqL, qqE] at aK3
    refine OpE.val (W := NoB) (OpV.move (.inl rfl) rfl) rfl ?_
    refine VO.opY rfl rfl rfl rfl aK3b ?_
    refine OpE.val (W := NoB) (OpV.move (.inl rfl) rfl) rfl ?_
    refine VO.opY rfl rfl rfl rfl aK3b ?_
    refine OpE.val (W := NoB) (OpV.len_im rfl Tryz.underlying102 rfl) rfl ?_
    refine VO.opY rfl rfl rfl rfl aK3b ?_
    refine OpE.val (W := NoB) (OpV.geq rfl rfl rfl) rfl ?_
    refine VO.val rfl rfl (OpV.pickF rfl rfl rfl rfl aK3b) ?_
    refine VO.nil ?_
    refine VC.cond rfl (fun h8b => ?_) (fun h8b => ?_)
    ·have h8 := h8b
     try simp only [qqT, qqF, qqN, qqM, qqL, qqE] at h8
     refine VC.sr ?_
     refine VO.ma rfl rfl rfl rfl ?_
     refine VO.nil ?_
     refine VC.ret ?_
     exact Exists.intro _ (And.intro (RetN.one Tryz.results193 (ResN.v rfl)) (by rw [planF_at (by omega) (by omega) he (planE_8 (by omega)) (by decide)]))
    ·have h8 := h8b
     try simp only [qqT, qqF, qqN, qqM, qqL, qqE] at h8
     refine VC.skip ?_
     refine VC.seq ?_
     refine VC.draw (fun _ => NoB) hB (by kernel_rfl) ?_
     refine VA.take (i := 0) rfl (by kernel_rfl) (by kernel_rfl) (by kernel_rfl) rfl rfl (OpV.move (.inl rfl) rfl) ?_
     refine VA.take (i := 1) rfl (by kernel_rfl) (by kernel_rfl) (by kernel_rfl) rfl rfl (OpV.move (.inl rfl) rfl) ?_
     refine VA.take (i := 2) rfl (by kernel_rfl) (by kernel_rfl) (by kernel_rfl) rfl rfl (OpV.indexAddr_E rfl Tryz.underlying102 Tryz.sizeOf128 rfl rfl (Int.toNat_of_nonneg (by omega)).symm (by omega)) ?_
     refine VA.take (i := 3) rfl (by kernel_rfl) (by kernel_rfl) (by kernel_rfl) rfl rfl (OpV.loadK_at rfl hB OutW.wi0 Tryz.isAgg128 Tryz.sizeOf128 rfl rfl) ?_
     refine VA.take (i := 4) rfl (by kernel_rfl) (by kernel_rfl) (by kernel_rfl) rfl rfl (OpV.move (.inl rfl) rfl) ?_
     refine VA.take (i := 5) rfl (by kernel_rfl) (by kernel_rfl) (by kernel_rfl) rfl rfl (OpV.move (.inl rfl) rfl) ?_
     refine VA.take (i := 6) rfl (by kernel_rfl) (by kernel_rfl) (by kernel_rfl) rfl rfl (OpV.indexAddr_E rfl Tryz.underlying77 Tryz.sizeOf96 rfl rfl rfl (by omega)) ?_
     refine VA.take (i := 7) rfl (by kernel_rfl) (by kernel_rfl) (by kernel_rfl) rfl rfl (OpV.fieldAddr_atO 0 rfl Tryz.underlying96 rfl rfl Tryz.sizeOf9 rfl rfl) ?_
     refine VA.take (i := 8) rfl (by kernel_rfl) (by kernel_rfl) (by kernel_rfl) rfl rfl (OpV.load_at rfl hB OutW.wi0 Tryz.isAgg9 rfl rfl) ?_
     refine VA.all (rs := [9]) (by kernel_rfl) (by decide) ?_
     refine ⟨⟨_, rfl, .inl rfl, ?_⟩, trivial⟩
     refine OpE.call rfl hB rfl Tryz.call179 rfl (SpecN.spec (line_can (by have := canF_keys (machF_each hm (i := (plan.getD q 0).toNat) (by omega)).2; omega) (canF_sort (machF_each hm (by omega)).2))) ?_
     rintro _ rfl
     refine VA.take (i := 10) rfl (by kernel_rfl) (by kernel_rfl) (by kernel_rfl) rfl rfl (OpV.not rfl rfl) ?_
     refine VA.done (by kernel_rfl) ?_
     refine VC.cond rfl (fun h4b => ?_) (fun h4b => ?_)
     ·have h4 := h4b
      try simp only [qqT, qqF, qqN, qqM, qqL, qqE] at h4
      refine VC.sr ?_
      refine VO.ma rfl rfl rfl rfl ?_
      refine VO.nil ?_
      refine VC.ret ?_
      exact Exists.intro _ (And.intro (RetN.one Tryz.results193 (ResN.v rfl)) (by rw [planF_at (by omega) (by omega) he (planE_4 (by omega) h4) (by decide)]))
     ·have h4 := h4b
      try simp only [qqT, qqF, qqN, qqM, qqL, qqE] at h4
      refine VC.skip ?_
      refine VC.region ?_
      refine VO.val rfl rfl (OpV.add rfl rfl rfl (by unfold fits; omega)) ?_
      refine VO.mv rfl rfl rfl rfl ?_
      refine VO.nil ?_
      exact Exists.intro (⟨q + 1, by omega, lt_succ_cases he (planE_0 (by omega) h4)⟩) (And.intro (Le.mk hB [] ⟨rfl, rfl, rfl, rfl, rfl, rfl, trivial⟩ rfl rfl (Nat.le_refl _)) (by first | omega | (show _ < _; omega) | (simp only []; omega)))
   ·replace aK3b : _ = true := aK3b
    have aK3 := aK3b
    try simp only [qqT, qqF, qqN, qqM, qqL, qqE] at aK3
    refine VO.opX rfl rfl rfl rfl aK3b ?_
    refine VO.opX rfl rfl rfl rfl aK3b ?_
    refine VO.opX rfl rfl rfl rfl aK3b ?_
    refine VO.val rfl rfl (OpV.pickT rfl rfl rfl rfl aK3b) ?_
    refine VO.nil ?_
    refine VC.condT rfl rfl ?_
    refine VC.sr ?_
    refine VO.ma rfl rfl rfl rfl ?_
    refine VO.nil ?_
    refine VC.ret ?_
    exact Exists.intro _ (And.intro (RetN.one Tryz.results193 (ResN.v rfl)) (by rw [planF_at (by omega) (by omega) he (planE_8 (by omega)) (by decide)]))
  ·have aH2 := aH2b
   try simp only [qqT, qqF, qqN, qqM, qqL, qqE] at aH2
   refine VC.exit ?_
   refine VC.sr ?_
   refine VO.mv rfl rfl rfl rfl ?_
   refine VO.val rfl rfl (OpV.len_im rfl Tryz.underlying102 rfl) ?_
   refine VO.op rfl (OpE.make rfl hB rfl Tryz.underlying22 (infoOf Tryz.t3 1 (by kernel_rfl) rfl rfl) (by decide) rfl rfl (n := ms.length) rfl rfl (by omega) (made_ints _) ?_)
   intro g46
   refine VO.ma rfl rfl rfl rfl ?_
   refine VO.nil ?_
   refine VC.seq ?_
   refine VC.sr ?_
   refine VO.mv rfl rfl rfl rfl ?_
   refine VO.val rfl rfl (OpV.len_im rfl Tryz.underlying22 rfl) ?_
   refine VO.mv rfl rfl rfl rfl ?_
   refine VO.nil ?_
   refine VC.block ?_
   refine VC.loopK [] trivial ({r : Nat // r ≤ plan.length ∧ ∀ k, k < ms.length → cnt plan k r ≤ (ms.getD k default).feeders}) (fun (iZ : {r : Nat // r ≤ plan.length ∧ ∀ k, k < ms.length → cnt plan k r ≤ (ms.getD k default).feeders}) => match iZ with | ⟨r, hr, hc⟩ => [(0, avL ms), (9, .v (.slice (some ⟨g46, 0, none⟩) ms.length ms.length)), (47, avInts plan), (48, avI plan.length), (49, avI (r : Int))]) (fun (iZ : {r : Nat // r ≤ plan.length ∧ ∀ k, k < ms.length → cnt plan k r ≤ (ms.getD k default).feeders}) => match iZ with | ⟨r, hr, hc⟩ => [.box g46 ⟨intsL (tabI ms.length (fun k => cnt plan k r)), 3, (intsL (List.replicate ms.length 0)).length⟩]) (fun (iZ : {r : Nat // r ≤ plan.length ∧ ∀ k, k < ms.length → cnt plan k r ≤ (ms.getD k default).feeders}) => match iZ with | ⟨r, hr, hc⟩ => 0) (fun (iZ : {r : Nat // r ≤ plan.length ∧ ∀ k, k < ms.length → cnt plan k r ≤ (ms.getD k default).feeders}) => match iZ with | ⟨r, hr, hc⟩ => plan.length - r) ⟨0, Nat.zero_le _, hfe⟩ (Le.mk hB [0] ⟨rfl, rfl, rfl, rfl, rfl, trivial⟩ rfl (by rw [tabI_rep]; rfl) (Nat.le_refl _)) ?_
   rintro ⟨r, hr, hc⟩
   show VC _ _ _ _ ⟨[(0, avL ms), (9, .v (.slice (some ⟨g46, 0, none⟩) ms.length ms.length)), (47, avInts plan), (48, avI plan.length), (49, avI (r : Int))] ++ [], [.box g46 ⟨intsL (tabI ms.length (fun k => cnt plan k r)), 3, (intsL (List.replicate ms.length 0)).length⟩], 0⟩
   refine VC.sr ?_
   refine VO.val rfl rfl (OpV.lss rfl rfl rfl) ?_
   refine VO.nil ?_
   refine VC.seq ?_
   refine VC.cond rfl (fun aH4b => ?_) (fun aH4b => ?_)
   ·have aH4 := aH4b
    try simp only [qqT, qqF, qqN, qqM, qqL, qqE] at aH4
    obtain ⟨k, hk1, hk2⟩ := planE_ok (he r (by omega))
    have hcl := cnt_le plan k r
    refine VC.skip ?_
    refine VC.seq ?_
    refine VC.block ?_
    refine VC.sr ?_
    refine VO.val rfl rfl (OpV.indexAddr_1 rfl Tryz.underlying22 Tryz.sizeOf3 rfl rfl rfl (by omega)) ?_
    refine VO.val rfl rfl (OpV.load_at rfl hB OutW.no Tryz.isAgg3 rfl rfl) ?_
    refine VO.ma rfl rfl rfl rfl ?_
    refine VO.nil ?_
    refine VC.sr ?_
    refine VO.mv rfl rfl rfl rfl ?_
    refine VO.mv rfl rfl rfl rfl ?_
    refine VO.val rfl rfl (OpV.indexAddr_o rfl Tryz.underlying22 Tryz.sizeOf3 rfl rfl hk1 (by omega)) ?_
    refine VO.val rfl rfl (OpV.load_own (i := 0) rfl hB Tryz.isAgg3 rfl rfl (intsT_get hk2) (fun h => h)) ?_
    refine VO.val rfl rfl (OpV.add rfl rfl rfl (by unfold fits; omega)) ?_
    refine VO.val rfl rfl (OpV.indexAddr_o rfl Tryz.underlying22 Tryz.sizeOf3 rfl rfl hk1 (by omega)) ?_
    refine VO.op rfl (OpE.store1 (i := 0) rfl hB rfl Tryz.sizeOf3 rfl rfl rfl rfl rfl rfl (by rw [intsL_len, tabI_len]; exact hk2) ((intsL_set _ _ _).trans (congrArg intsL (tabI_set' (g := fun j => cnt plan j (r + 1)) (by rw [cnt, if_pos hk1]) (fun j hj hne => by rw [cnt, if_neg (by rw [hk1]; omega)]; omega)))) trivial ?_)
    refine VO.nil ?_
    refine VC.seq ?_
    refine VC.draw (fun _ => NoB) hB (by kernel_rfl) ?_
    refine VA.take (i := 0) rfl (by kernel_rfl) (by kernel_rfl) (by kernel_rfl) rfl rfl (OpV.move (.inl rfl) rfl) ?_
    refine VA.take (i := 1) rfl (by kernel_rfl) (by kernel_rfl) (by kernel_rfl) rfl rfl (OpV.move (.inl rfl) rfl) ?_
    refine VA.take (i := 2) rfl (by kernel_rfl) (by kernel_rfl) (by kernel_rfl) rfl rfl (OpV.indexAddr_o rfl Tryz.underlying22 Tryz.sizeOf3 rfl rfl hk1 (by omega)) ?_
    refine VA.take (i := 3) rfl (by kernel_rfl) (by kernel_rfl) (by kernel_rfl) rfl rfl (OpV.load_own (i := 0) rfl hB Tryz.isAgg3 rfl rfl (intsT_get hk2) Wi.not0) ?_
    refine VA.take (i := 4) rfl (by kernel_rfl) (by kernel_rfl) (by kernel_rfl) rfl rfl (OpV.move (.inl rfl) rfl) ?_
    refine VA.take (i := 5) rfl (by kernel_rfl) (by kernel_rfl) (by kernel_rfl) rfl rfl (OpV.move (.inl rfl) rfl) ?_
    refine VA.take (i := 6) rfl (by kernel_rfl) (by kernel_rfl) (by kernel_rfl) rfl rfl (OpV.indexAddr_E rfl Tryz.underlying102 Tryz.sizeOf128 rfl rfl hk1 (by omega)) ?_
    refine VA.take (i := 7) rfl (by kernel_rfl) (by kernel_rfl) (by kernel_rfl) rfl rfl (OpV.fieldAddr_atO 3 rfl Tryz.underlying128 rfl rfl Tryz.sizeOf3 rfl rfl) ?_
    refine VA.take (i := 8) rfl (by kernel_rfl) (by kernel_rfl) (by kernel_rfl) rfl rfl (OpV.load_at rfl hB OutW.wi0 Tryz.isAgg3 rfl rfl) ?_
    refine VA.take (i := 9) rfl (by kernel_rfl) (by kernel_rfl) (by kernel_rfl) rfl rfl (OpV.gtr rfl rfl rfl) ?_
    refine VA.done (by kernel_rfl) ?_
    refine VC.cond rfl (fun h12b => ?_) (fun h12b => ?_)
    ·have h12 := h12b
     try simp only [qqT, qqF, qqN, qqM, qqL, qqE] at h12
     refine VC.sr ?_
     refine VO.ma rfl rfl rfl rfl ?_
     refine VO.nil ?_
     refine VC.ret ?_
     exact Exists.intro _ (And.intro (RetN.one Tryz.results193 (ResN.v rfl)) (by rw [planF_12 (k := k) (by omega) (fun j hj => he j (by omega)) hk2 (Int.lt_of_lt_of_le h12 (cnt_mono _ _ (by omega)))]))
    ·have h12 := h12b
     try simp only [qqT, qqF, qqN, qqM, qqL, qqE] at h12
     refine VC.skip ?_
     refine VC.region ?_
     refine VO.val rfl rfl (OpV.add rfl rfl rfl (by unfold fits; omega)) ?_
     refine VO.mv rfl rfl rfl rfl ?_
     refine VO.nil ?_
     exact Exists.intro (⟨r + 1, by omega, fun j hj => by by_cases hjk : j = k; subst hjk; exact h12; (have := hc j hj; rw [cnt, if_neg (by rw [hk1]; omega)]; omega)⟩) (And.intro (Le.mk hB [0] ⟨rfl, rfl, rfl, rfl, rfl, trivial⟩ rfl rfl (Nat.le_refl _)) (by first | omega | (show _ < _; omega) | (simp only []; omega)))
   ·have aH4 := aH4b
    try simp only [qqT, qqF, qqN, qqM, qqL, qqE] at aH4
    refine VC.exit ?_
    refine VC.sr ?_
    refine VO.ma rfl rfl rfl rfl ?_
    refine VO.nil ?_
    refine VC.ret ?_
    exact Exists.intro _ (And.intro (RetN.one Tryz.results193 (ResN.v rfl)) (by rw [planF_0 (by omega) (fun j hj => he j (by omega)) (fun k hk => by have := hc k hk; rw [show plan.length = r by omega]; exact this)]))
end Go.Proofs.YtaaokimiadfidaaGreatDoor
namespace Go.Proofs.YtaaokimiadfidaaGreatDoor
open Go.RowKit
set_option linter.unusedVariables false
set_option linter.unusedSimpArgs false
set_option maxRecDepth 100000 in
theorem line_cycles {ms : List Mach} {ns : List NeedS} {plan : List Int} (hm : machF ms = 0) (hn : needsF ns 1 1000 = 0) (hp : planF ms ns plan = 0) :
  SpecN Tryz.prog 178 [avL ms, avL ns, avInts plan] (fun y => y = avInts (cycL ms ns plan)) := by
 have hlen := machF_len hm
 have hnl := needsF_len hn
 obtain ⟨hpl, he⟩ := planF_zero hp
 refine SpecN.of_VCN Tryz.func178 rfl Tryz.ntmps178 (Nle rfl) fun w A hB => ?_
 have hnew : True := trivial
 refine VC.sr ?_
 refine VO.ma rfl rfl rfl rfl ?_
 refine VO.nil ?_
 refine VC.sr ?_
 refine VO.mv rfl rfl rfl rfl ?_
 refine VO.val rfl rfl (OpV.len_im rfl Tryz.underlying102 rfl) ?_
 refine VO.op rfl (OpE.make rfl hB rfl Tryz.underlying22 (infoOf Tryz.t3 1 (by kernel_rfl) rfl rfl) (by decide) rfl rfl (n := ms.length) rfl rfl (by omega) (made_ints _) ?_)
 intro g14
 refine VO.ma rfl rfl rfl rfl ?_
 refine VO.nil ?_
 refine VC.seq ?_
 refine VC.sr ?_
 refine VO.mv rfl rfl rfl rfl ?_
 refine VO.val rfl rfl (OpV.len_im rfl Tryz.underlying102 rfl) ?_
 refine VO.mv rfl rfl rfl rfl ?_
 refine VO.nil ?_
 refine VC.block ?_
 refine VC.loopK [] trivial ({q : Nat // q ≤ ms.length}) (fun (iZ : {q : Nat // q ≤ ms.length}) => match iZ with | ⟨q, hq⟩ => [(0, avL ms), (1, avL ns), (2, avInts plan), (7, .v (.slice (some ⟨g14, 0, none⟩) ms.length ms.length)), (15, avL ms), (16, avI ms.length), (17, avI (q : Int))]) (fun (iZ : {q : Nat // q ≤ ms.length}) => match iZ with | ⟨q, hq⟩ => [.box g14 ⟨intsL (tabI ms.length (fun k => if k < q then (ms.getD k default).fixed else 0)), 3, (intsL (List.replicate ms.length 0)).length⟩]) (fun (iZ : {q : Nat // q ≤ ms.length}) => match iZ with | ⟨q, hq⟩ => 0) (fun (iZ : {q : Nat // q ≤ ms.length}) => match iZ with | ⟨q, hq⟩ => ms.length - q) ⟨0, Nat.zero_le _⟩ (Le.mk hB [0] ⟨rfl, rfl, rfl, rfl, rfl, rfl, rfl, trivial⟩ rfl (by rw [tabI_rep]; rfl) (Nat.le_refl _)) ?_
 rintro ⟨q, hq⟩
 show VC _ _ _ _ ⟨[(0, avL ms), (1, avL ns), (2, avInts plan), (7, .v (.slice (some ⟨g14, 0, none⟩) ms.length ms.length)), (15, avL ms), (16, avI ms.length), (17, avI (q : Int))] ++ [], [.box g14 ⟨intsL (tabI ms.length (fun k => if k < q then (ms.getD k default).fixed else 0)), 3, (intsL (List.replicate ms.length 0)).length⟩], 0⟩
 refine VC.sr ?_
 refine VO.val rfl rfl (OpV.lss rfl rfl rfl) ?_
 refine VO.nil ?_
 refine VC.seq ?_
 refine VC.cond rfl (fun aH1b => ?_) (fun aH1b => ?_)
 ·have aH1 := aH1b
  try simp only [qqT, qqF, qqN, qqM, qqL, qqE] at aH1
  refine VC.skip ?_
  refine VC.seq ?_
  refine VC.block ?_
  refine VC.sr ?_
  refine VO.mv rfl rfl rfl rfl ?_
  refine VO.val rfl rfl (OpV.indexAddr_E rfl Tryz.underlying102 Tryz.sizeOf128 rfl rfl rfl (by omega)) ?_
  refine VO.val rfl rfl (OpV.loadK_at rfl hB OutW.no Tryz.isAgg128 Tryz.sizeOf128 rfl rfl) ?_
  refine VO.op rfl (OpE.alloc rfl hB rfl Tryz.zeroValue128 rfl ?_)
  intro g9
  refine VO.ma rfl rfl rfl rfl ?_
  refine VO.op rfl (OpE.store (i := 1) rfl hB rfl Tryz.sizeOf128 rfl rfl rfl rfl rfl rfl (Nle rfl) trivial ?_)
  refine VO.nil ?_
  refine VC.region ?_
  refine VO.mv rfl rfl rfl rfl ?_
  refine VO.mv rfl rfl rfl rfl ?_
  refine VO.val rfl rfl (OpV.fieldAddrO 2 rfl Tryz.underlying128 rfl rfl Tryz.sizeOf3 rfl) ?_
  refine VO.val rfl rfl (OpV.load_own (i := 1) rfl hB Tryz.isAgg3 rfl rfl rfl (fun h => h)) ?_
  refine VO.val rfl rfl (OpV.indexAddr_o rfl Tryz.underlying22 Tryz.sizeOf3 rfl rfl rfl (by omega)) ?_
  refine VO.op rfl (OpE.store1 (i := 0) rfl hB rfl Tryz.sizeOf3 rfl rfl rfl rfl rfl rfl (by rw [intsL_len, tabI_len]; omega) ((intsL_set _ _ _).trans (congrArg intsL (tabI_set' (g := fun k => if k < q + 1 then (ms.getD k default).fixed else 0) (by rw [if_pos (by omega)]) (fun j hj hne => if_step hne)))) trivial ?_)
  refine VO.nil ?_
  refine VC.region ?_
  refine VO.val rfl rfl (OpV.add rfl rfl rfl (by unfold fits; omega)) ?_
  refine VO.mv rfl rfl rfl rfl ?_
  refine VO.nil ?_
  exact Exists.intro (⟨q + 1, by omega⟩) (And.intro (Le.mk hB [0] ⟨rfl, rfl, rfl, rfl, rfl, rfl, rfl, trivial⟩ rfl rfl (Nat.le_refl _)) (by first | omega | (show _ < _; omega) | (simp only []; omega)))
 ·have aH1 := aH1b
  try simp only [qqT, qqF, qqN, qqM, qqL, qqE] at aH1
  refine VC.exit ?_
  refine VC.seq ?_
  refine VC.sr ?_
  refine VO.mv rfl rfl rfl rfl ?_
  refine VO.val rfl rfl (OpV.len_im rfl Tryz.underlying22 rfl) ?_
  refine VO.mv rfl rfl rfl rfl ?_
  refine VO.nil ?_
  refine VC.block ?_
  refine VC.loopK [] trivial ({r : Nat // r ≤ plan.length}) (fun (iZ : {r : Nat // r ≤ plan.length}) => match iZ with | ⟨r, hr⟩ => [(0, avL ms), (1, avL ns), (7, .v (.slice (some ⟨g14, 0, none⟩) ms.length ms.length)), (28, avInts plan), (29, avI plan.length), (30, avI (r : Int))]) (fun (iZ : {r : Nat // r ≤ plan.length}) => match iZ with | ⟨r, hr⟩ => [.box g14 ⟨intsL (tabI ms.length (fun k => cyc ms ns plan k r)), 3, (intsL (List.replicate ms.length 0)).length⟩]) (fun (iZ : {r : Nat // r ≤ plan.length}) => match iZ with | ⟨r, hr⟩ => 0) (fun (iZ : {r : Nat // r ≤ plan.length}) => match iZ with | ⟨r, hr⟩ => plan.length - r) ⟨0, Nat.zero_le _⟩ (Le.mk hB [0] ⟨rfl, rfl, rfl, rfl, rfl, rfl, trivial⟩ rfl (congrArg (fun z => [Ent.box g14 ⟨intsL z, 3, (intsL (List.replicate ms.length 0)).length⟩]) (tabI_congr fun k hk => by rw [if_pos (by omega)]; rfl)) (Nat.le_refl _)) ?_
  rintro ⟨r, hr⟩
  show VC _ _ _ _ ⟨[(0, avL ms), (1, avL ns), (7, .v (.slice (some ⟨g14, 0, none⟩) ms.length ms.length)), (28, avInts plan), (29, avI plan.length), (30, avI (r : Int))] ++ [], [.box g14 ⟨intsL (tabI ms.length (fun k => cyc ms ns plan k r)), 3, (intsL (List.replicate ms.length 0)).length⟩], 0⟩
  refine VC.sr ?_
  refine VO.val rfl rfl (OpV.lss rfl rfl rfl) ?_
  refine VO.nil ?_
  refine VC.seq ?_
  refine VC.cond rfl (fun aH2b => ?_) (fun aH2b => ?_)
  ·have aH2 := aH2b
   try simp only [qqT, qqF, qqN, qqM, qqL, qqE] at aH2
   obtain ⟨k, hk1, hk2⟩ := planE_ok (he r (by omega))
   have hcy := cyc_in (plan := plan) hm hn hk2 (r := r) (by omega)
   have hmu := mul_in (machF_each hm hk2).1.1 (needsF_count hn (i := r) (by omega))
   refine VC.skip ?_
   refine VC.seq ?_
   refine VC.block ?_
   refine VC.sr ?_
   refine VO.mv rfl rfl rfl rfl ?_
   refine VO.val rfl rfl (OpV.indexAddr_1 rfl Tryz.underlying22 Tryz.sizeOf3 rfl rfl rfl (by omega)) ?_
   refine VO.val rfl rfl (OpV.load_at rfl hB OutW.no Tryz.isAgg3 rfl rfl) ?_
   refine VO.ma rfl rfl rfl rfl ?_
   refine VO.ma rfl rfl rfl rfl ?_
   refine VO.nil ?_
   refine VC.draw (fun j b => j = 17 ∧ b = g14) hB (by kernel_rfl) ?_
   refine VA.take (i := 0) rfl (by kernel_rfl) (by kernel_rfl) (by kernel_rfl) rfl rfl (OpV.move (.inl rfl) rfl) ?_
   refine VA.take (i := 1) rfl (by kernel_rfl) (by kernel_rfl) (by kernel_rfl) rfl rfl (OpV.move (.inl rfl) rfl) ?_
   refine VA.take (i := 2) rfl (by kernel_rfl) (by kernel_rfl) (by kernel_rfl) rfl rfl (OpV.indexAddr_o rfl Tryz.underlying22 Tryz.sizeOf3 rfl rfl hk1 (by omega)) ?_
   refine VA.take (i := 3) rfl (by kernel_rfl) (by kernel_rfl) (by kernel_rfl) rfl rfl (OpV.load_own (i := 0) rfl hB Tryz.isAgg3 rfl rfl (intsT_get hk2) (by first | exact Wi.not1 (by kernel_rfl) | exact Wi.not2 (by kernel_rfl) (by kernel_rfl) | exact Wi.notX (by kernel_rfl))) ?_
   refine VA.take (i := 4) rfl (by kernel_rfl) (by kernel_rfl) (by kernel_rfl) rfl rfl (OpV.move (.inl rfl) rfl) ?_
   refine VA.take (i := 5) rfl (by kernel_rfl) (by kernel_rfl) (by kernel_rfl) rfl rfl (OpV.move (.inl rfl) rfl) ?_
   refine VA.take (i := 6) rfl (by kernel_rfl) (by kernel_rfl) (by kernel_rfl) rfl rfl (OpV.indexAddr_E rfl Tryz.underlying102 Tryz.sizeOf128 rfl rfl hk1 (by omega)) ?_
   refine VA.take (i := 7) rfl (by kernel_rfl) (by kernel_rfl) (by kernel_rfl) rfl rfl (OpV.fieldAddr_atO 1 rfl Tryz.underlying128 rfl rfl Tryz.sizeOf3 rfl rfl) ?_
   refine VA.take (i := 8) rfl (by kernel_rfl) (by kernel_rfl) (by kernel_rfl) rfl rfl (OpV.load_at rfl hB (by first | exact OutW.wi1 (k := 0) rfl rfl) Tryz.isAgg3 rfl rfl) ?_
   refine VA.take (i := 9) rfl (by kernel_rfl) (by kernel_rfl) (by kernel_rfl) rfl rfl (OpV.move (.inl rfl) rfl) ?_
   refine VA.take (i := 10) rfl (by kernel_rfl) (by kernel_rfl) (by kernel_rfl) rfl rfl (OpV.move (.inl rfl) rfl) ?_
   refine VA.take (i := 11) rfl (by kernel_rfl) (by kernel_rfl) (by kernel_rfl) rfl rfl (OpV.indexAddr_E rfl Tryz.underlying77 Tryz.sizeOf96 rfl rfl rfl (by omega)) ?_
   refine VA.take (i := 12) rfl (by kernel_rfl) (by kernel_rfl) (by kernel_rfl) rfl rfl (OpV.fieldAddr_atO 1 rfl Tryz.underlying96 rfl rfl Tryz.sizeOf3 rfl rfl) ?_
   refine VA.take (i := 13) rfl (by kernel_rfl) (by kernel_rfl) (by kernel_rfl) rfl rfl (OpV.load_at rfl hB (by first | exact OutW.wi1 (k := 0) rfl rfl) Tryz.isAgg3 rfl rfl) ?_
   refine VA.take (i := 14) rfl (by kernel_rfl) (by kernel_rfl) (by kernel_rfl) rfl rfl (OpV.mul rfl rfl rfl (by unfold fits; omega)) ?_
   refine VA.take (i := 15) rfl (by kernel_rfl) (by kernel_rfl) (by kernel_rfl) rfl rfl (OpV.add rfl rfl rfl (by unfold fits; omega)) ?_
   refine VA.take (i := 16) rfl (by kernel_rfl) (by kernel_rfl) (by kernel_rfl) rfl rfl (OpV.indexAddr_o rfl Tryz.underlying22 Tryz.sizeOf3 rfl rfl hk1 (by omega)) ?_
   refine VA.all (rs := [17]) (by kernel_rfl) (by decide) ?_
   refine ⟨⟨_, rfl, .inl rfl, ?_⟩, trivial⟩
   refine OpE.store1 (i := 0) rfl hB rfl Tryz.sizeOf3 rfl rfl rfl rfl rfl rfl (by rw [intsL_len, tabI_len]; exact hk2) ((intsL_set _ _ _).trans (congrArg intsL (tabI_set' (g := fun j => cyc ms ns plan j (r + 1)) (by rw [cyc, if_pos hk1]) (fun j hj hne => by rw [cyc, if_neg (by rw [hk1]; omega)])))) (by first | exact ⟨rfl, rfl⟩ | exact .inl ⟨rfl, rfl⟩ | exact .inr ⟨rfl, rfl⟩ | exact ⟨rfl, trivial⟩ | exact .inl ⟨rfl, trivial⟩ | exact .inr ⟨rfl, trivial⟩ | exact ⟨by decide, rfl⟩) ?_
   refine VA.done (by kernel_rfl) ?_
   refine VC.region ?_
   refine VO.val rfl rfl (OpV.add rfl rfl rfl (by unfold fits; omega)) ?_
   refine VO.mv rfl rfl rfl rfl ?_
   refine VO.nil ?_
   exact Exists.intro (⟨r + 1, by omega⟩) (And.intro (Le.mk hB [0] ⟨rfl, rfl, rfl, rfl, rfl, rfl, trivial⟩ rfl rfl (Nat.le_refl _)) (by first | omega | (show _ < _; omega) | (simp only []; omega)))
  ·have aH2 := aH2b
   try simp only [qqT, qqF, qqN, qqM, qqL, qqE] at aH2
   refine VC.exit ?_
   refine VC.sr ?_
   refine VO.mv rfl rfl rfl rfl ?_
   refine VO.ma rfl rfl rfl rfl ?_
   refine VO.nil ?_
   refine VC.ret ?_
   exact Exists.intro _ (And.intro (RetN.one Tryz.results178 (ResN.boxI (i := 0) rfl rfl (tabI_len _ _).symm (Nat.le_refl _) (capM (by omega)))) (by rw [show r = plan.length by omega]; rfl))
set_option maxRecDepth 100000 in
theorem line_planned {ms : List Mach} {ns : List NeedS} {plan : List Int} (hm : SmallM ms) (hn : SmallN ns) (hp : plan.length ≤ 1000000000) :
  SpecN Tryz.prog 191 [avL ms, avL ns, avInts plan] (fun y => y = avI (lineF ms ns plan)) := by
 refine SpecN.of_VCN Tryz.func191 rfl Tryz.ntmps191 (Nle rfl) fun w A hB => ?_
 have hnew : True := trivial
 refine VC.sr ?_
 refine VO.ma rfl rfl rfl rfl ?_
 refine VO.nil ?_
 refine VC.seq ?_
 refine VC.sr ?_
 refine VO.mv rfl rfl rfl rfl ?_
 refine VO.mv rfl rfl rfl rfl ?_
 refine VO.op rfl (OpE.call rfl hB rfl Tryz.call172 rfl (SpecN.spec (line_fault hm.l hm.k hm.c hm.s hn.l hn.k)) ?_)
 rintro _ rfl
 refine VO.ma rfl rfl rfl rfl ?_
 refine VO.nil ?_
 refine VC.sr ?_
 refine VO.mv rfl rfl rfl rfl ?_
 refine VO.val rfl rfl (OpV.neq rfl rfl rfl) ?_
 refine VO.nil ?_
 refine VC.cond rfl (fun h0b => ?_) (fun h0b => ?_)
 ·have h0 := h0b
  try simp only [qqT, qqF, qqN, qqM, qqL, qqE] at h0
  refine VC.sr ?_
  refine VO.mv rfl rfl rfl rfl ?_
  refine VO.ma rfl rfl rfl rfl ?_
  refine VO.nil ?_
  refine VC.ret ?_
  exact Exists.intro _ (And.intro (RetN.one Tryz.results191 (ResN.v rfl)) (by first | rw [lineF, if_pos h0] | rw [lineF, if_neg h0]))
 ·have h0 := h0b
  try simp only [qqT, qqF, qqN, qqM, qqL, qqE] at h0
  refine VC.skip ?_
  refine VC.sr ?_
  refine VO.mv rfl rfl rfl rfl ?_
  refine VO.mv rfl rfl rfl rfl ?_
  refine VO.mv rfl rfl rfl rfl ?_
  refine VO.op rfl (OpE.call rfl hB rfl Tryz.call193 rfl (SpecN.spec (line_planFault (faultF_0 (ms := ms) (ns := ns) (by omega)).1 hn.l hp)) ?_)
  rintro _ rfl
  refine VO.ma rfl rfl rfl rfl ?_
  refine VO.nil ?_
  refine VC.ret ?_
  exact Exists.intro _ (And.intro (RetN.one Tryz.results191 (ResN.v rfl)) (by first | rw [lineF, if_pos h0] | rw [lineF, if_neg h0]))
set_option maxRecDepth 100000 in
theorem line_Cycles {ms : List Mach} {ns : List NeedS} {plan : List Int} (hm : SmallM ms) (hn : SmallN ns) (hp : plan.length ≤ 1000000000) :
  Spec Tryz.prog 84 [avL ms, avL ns, avInts plan] (fun y => y = .tup [avInts (if lineF ms ns plan = 0 then cycL ms ns plan else []), avI (lineF ms ns plan)]) := by
 refine Spec.of_VC Tryz.func84 rfl Tryz.ntmps84 (Nle rfl) fun w A hB => ?_
 have hnew : True := trivial
 refine VC.sr ?_
 refine VO.ma rfl rfl rfl rfl ?_
 refine VO.ma rfl rfl rfl rfl ?_
 refine VO.nil ?_
 refine VC.seq ?_
 refine VC.sr ?_
 refine VO.mv rfl rfl rfl rfl ?_
 refine VO.mv rfl rfl rfl rfl ?_
 refine VO.mv rfl rfl rfl rfl ?_
 refine VO.op rfl (OpE.call rfl hB rfl Tryz.call191 rfl (SpecN.spec (line_planned hm hn hp)) ?_)
 rintro _ rfl
 refine VO.ma rfl rfl rfl rfl ?_
 refine VO.nil ?_
 refine VC.sr ?_
 refine VO.mv rfl rfl rfl rfl ?_
 refine VO.val rfl rfl (OpV.neq rfl rfl rfl) ?_
 refine VO.nil ?_
 refine VC.cond rfl (fun h0b => ?_) (fun h0b => ?_)
 ·have h0 := h0b
  try simp only [qqT, qqF, qqN, qqM, qqL, qqE] at h0
  refine VC.sr ?_
  refine VO.mv rfl rfl rfl rfl ?_
  refine VO.ma rfl rfl rfl rfl ?_
  refine VO.ma rfl rfl rfl rfl ?_
  refine VO.nil ?_
  refine VC.le _ (Le.recast (t := 6) (y := avInts []) rfl (fun w Z u h => by rw [h.eq_v]; exact .nil _ _)) ?_
  refine VC.ret ?_
  exact Exists.intro _ (And.intro (RetV.two Tryz.results84 (ResV.tmp rfl) (ResV.tmp rfl)) (by rw [if_neg h0]))
 ·have h0 := h0b
  try simp only [qqT, qqF, qqN, qqM, qqL, qqE] at h0
  refine VC.skip ?_
  refine VC.sr ?_
  refine VO.mv rfl rfl rfl rfl ?_
  refine VO.mv rfl rfl rfl rfl ?_
  refine VO.mv rfl rfl rfl rfl ?_
  refine VO.op rfl (OpE.call rfl hB rfl Tryz.call178 rfl (SpecN.spec (line_cycles (lineF_0 (ms := ms) (ns := ns) (plan := plan) (by omega)).1 (lineF_0 (ms := ms) (ns := ns) (plan := plan) (by omega)).2.1 (lineF_0 (ms := ms) (ns := ns) (plan := plan) (by omega)).2.2)) ?_)
  rintro _ rfl
  refine VO.ma rfl rfl rfl rfl ?_
  refine VO.ma rfl rfl rfl rfl ?_
  refine VO.nil ?_
  refine VC.ret ?_
  exact Exists.intro _ (And.intro (RetV.two Tryz.results84 (ResV.tmp rfl) (ResV.tmp rfl)) (by rw [if_pos (by omega), show lineF ms ns plan = 0 by omega]))
end Go.Proofs.YtaaokimiadfidaaGreatDoor
namespace Go.Proofs.YtaaokimiadfidaaGreatDoor
open Go.RowKit
set_option linter.unusedVariables false
set_option linter.unusedSimpArgs false
section
variable {P : Program} {ops : Array Oper} {Q : Act → World → Prop} {md : Region.Mode} {E : Nat → World → World → Prop}
theorem wpAnyE_firstT {S : Nat → Bool} {F : World → World → Prop} (htr : ∀ x y z, F x y → F y z → F x z) (hrf : ∀ x, F x x) {i : Nat} (hEr : ∀ x, E i x x)
  (hEF : ∀ j oj, ops[j]? = some oj → S j = false → ∀ w w', E j w w' → F w w') (hcl : ∀ k, S k = true → k ≠ i → ∃ ok, ops[k]? = some ok ∧ ∃ e ∈ ok.after, Region.binds md e = true ∧ S e.on = true)
  {oi : Oper} {v : Value} (hi : ops[i]? = some oi) (hsel : ∀ (j : Nat) (o : Oper) cs b, ops[j]? = some o → o.op ≠ .select cs b) :
  ∀ (fuel : Nat) (listed : Array Bool) (a : Act) (w : World), (∀ k, S k = true → listed.getD k true = false) →
   (∀ j oj, ops[j]? = some oj → j ≠ i → listed.getD j true = false → (∀ e ∈ oj.after, Region.binds md e = true → e.on ≠ i) → oi.apart ops oj = true) →
   i ∈ Region.ready md ops listed → YieldsE P ops F oi v a w →
   wpAnyE P md ops Q E fuel (listed.setIfInBounds i true) (a.put oi.dst v) w → wpAnyE P md ops Q E (fuel + 1) listed a w := by
 intro fuel
 induction fuel with
 | zero =>
  intro listed a w _ _ hr hy H
  refine ⟨fun h => (by rw [h] at hr; cases hr), fun j hj => ?_⟩
  by_cases hji : j = i
  ·subst hji; exact YieldsIf.wpOp hi hy.iff (hrf w) ⟨hEr w, H⟩
  ·have := ready_mono hj hji
   rw [H.1] at this
   cases this
 | succ fuel ih =>
  intro listed a w hS hfree hr hy H
  refine ⟨fun h => (by rw [h] at hr; cases hr), fun j hj => ?_⟩
  by_cases hji : j = i
  ·subst hji; exact YieldsIf.wpOp hi hy.iff (hrf w) ⟨hEr w, H⟩
  ·have h1 := H.2 j (ready_mono hj hji)
   obtain ⟨hjun, oj, hoj, hall⟩ := mem_ready.1 hj
   have hnot : ∀ e ∈ oj.after, Region.binds md e = true → e.on ≠ i := fun e he hb heq => by
    have h1 := hall e he hb
    have h0 := (mem_ready.1 hr).1
    rw [heq] at h1
    rcases Nat.lt_or_ge i listed.size with h' | h'
    ·simp [h'] at h0 h1; rw [h0] at h1; cases h1
    ·simp [Array.getElem?_eq_none h'] at h1
   have hjS : S j = false := by
    cases hc : S j with
    | false => rfl
    | true =>
     obtain ⟨ok, k1, e, he, hb, k2⟩ := hcl j hc hji
     obtain rfl : oj = ok := Option.some.inj (hoj.symm.trans k1)
     have h1 := hall e he hb
     have h0 := hS e.on k2
     rcases Nat.lt_or_ge e.on listed.size with h' | h'
     ·simp [h'] at h0 h1; rw [h0] at h1; cases h1
     ·simp [Array.getElem?_eq_none h'] at h1
   have h2 := wpOp_putIf (S := F w) hoj (hfree j oj hoj hji hjun hnot) (fun cs b => hsel i oi cs b hi) (fun cs b => hsel j oj cs b hoj) (fun c a w h => h.elim) hy.iff h1
   have hfree' : ∀ k ok, ops[k]? = some ok → k ≠ i → (listed.setIfInBounds j true).getD k true = false →
     (∀ e ∈ ok.after, Region.binds md e = true → e.on ≠ i) → oi.apart ops ok = true := fun k ok hk hki hun hno => by
    refine hfree k ok hk hki ?_ hno
    by_cases hjk : j = k
    ·subst hjk; exact hjun
    ·rw [Go.getD_set_ne true hjk] at hun; exact hun
   have hS' : ∀ k, S k = true → (listed.setIfInBounds j true).getD k true = false := fun k hk => by
    have hjk : j ≠ k := fun e => by rw [e, hk] at hjS; cases hjS
    rw [Go.getD_set_ne true hjk]; exact hS k hk
   refine wpOp_mono (fun a' w' h3 => ⟨h3.2.1, ih (listed.setIfInBounds j true) a' w' hS' hfree' (ready_mono hr (Ne.symm hji)) ?_ ?_⟩) h2
   ·rcases h3.1 with ⟨k1, k2⟩ | k
    ·exact .inl ⟨k1, fun w'' hw'' => k2 w'' (htr _ _ _ (hEF j oj hoj hjS _ _ h3.2.1) hw'')⟩
    ·exact .inr k
   rw [Array.setIfInBounds_comm _ _ hji]
   exact h3.2.2
end
section
variable {P : Program} {B : Bs} {V : Nat → Nat → Prop} {ops : Array Oper} {s : St'} {Q : Exit → St' → Prop} {n : Nat} {L : Array Bool}
def WS (V : Nat → Nat → Prop) (S : List Nat) : Nat → Prop := fun b => ∃ j, S.contains j = false ∧ V j b
def hangB (ops : Array Oper) (S : List Nat) (i : Nat) : Bool := S.all fun k => k == i || match ops[k]? with
 | some o => o.after.any fun e => Region.binds .any e && S.contains e.on
 | none => false
theorem VA.takeT (S : List Nat) {i : Nat} {o : Oper} {x : AV} (hS : hangB ops S i = true) (hL : (S.all fun k => !(L.getD k true)) = true) (hi : ops[i]? = some o) (hs : Region.noSelect ops = true) (hf : Region.free .any ops L i = true) (hr : (Region.ready .any ops L).contains i = true) (hg : o.guard = none) (hd : okd B.nt o.dst = true)
  (hv : OpV P B (WS V S) s o x) (h : VA P B V ops Q n (L.setIfInBounds i true) (s.put o.dst x)) : VA P B V ops Q (n + 1) L s := fun a w hR => by
 obtain ⟨v, h1, h2⟩ := hv a w hR
 refine wpAnyE_firstT (S := fun k => S.contains k) (F := Ew B (WS V S)) Ew.tr Ew.rf (fun x => Ew.rf x) (fun j oj hj hjS w w' h => h.mono fun b _ hb => hb.imp id fun hv => ⟨j, hjS, hv⟩) (fun k hk hki => ?_) hi (Region.noSelect_spec hs) n L a w (fun k hk => ?_) (Region.free_spec hi hf) (by simpa using hr) (.inl ⟨by simp [Region.wanted, hg], h1⟩) (h _ _ (hR.put _ hd _ _ h2))
 ·have hk' : k ∈ S := by simpa using hk
  have := List.all_eq_true.1 hS k hk'
  simp only [Bool.or_eq_true, beq_iff_eq] at this
  have := this.resolve_left hki
  cases ho : ops[k]? with
  | none => rw [ho] at this; cases this
  | some ok =>
   rw [ho] at this
   obtain ⟨e, he, h3⟩ := Array.any_eq_true'.1 this
   simp only [Bool.and_eq_true] at h3
   exact ⟨ok, rfl, e, he, h3.1, h3.2⟩
 ·have hk' : k ∈ S := by simpa using hk
  have := List.all_eq_true.1 hL k hk'
  simpa using this
end
end Go.Proofs.YtaaokimiadfidaaGreatDoor
namespace Go.Proofs.YtaaokimiadfidaaGreatDoor
open Go.RowKit
set_option linter.unusedVariables false
set_option linter.unusedSimpArgs false
def balC (ms : List Mach) (ns : List NeedS) (u : Value) : Nat → AV := fun j => match j with
 | 0 => avL ms
 | 1 => avL ns
 | 2 => .v u
 | _ => .any
theorem bit_no (set q : Nat) : decide (((set / 2 ^ q &&& 1 : Nat) : Int) = 0) = !set.testBit q := by
 rw [Nat.testBit_eq_decide_div_mod_eq, Nat.and_one_is_mod]
 have h := Nat.mod_two_eq_zero_or_one (set / 2 ^ q)
 rcases h with h | h
 ·rw [h]; rfl
 ·rw [h]; rfl
section
variable {m : Mach} {ns : List NeedS} {b : Nat → Bool} {q : Nat}
theorem timB_no (h : b q = false) : timB m ns b (q + 1) = timB m ns b q := by rw [timB, if_neg (by rw [h]; simp)]
theorem timB_yes (h : b q = true) : timB m ns b (q + 1) = timB m ns b q + m.each * (ns.getD q default).count := by rw [timB, if_pos h]
theorem numB_no (h : b q = false) : numB b (q + 1) = numB b q := by rw [numB, if_neg (by rw [h]; simp)]; rfl
theorem numB_yes (h : b q = true) : numB b (q + 1) = numB b q + 1 := by rw [numB, if_pos h]
theorem okA_skip (h : b q = false) : okA m ns b q = true := by unfold okA; rw [h]; rfl
theorem okA_f1 (h : b q = true) (h2 : m.feeders < (numB b q : Int) + 1) : okA m ns b q = false := by
 unfold okA
 rw [h, numB_yes h, decide_eq_false (by omega)]; simp
theorem okA_f2 (h : b q = true) (h2 : hasK m (ns.getD q default).key = false) : okA m ns b q = false := by
 unfold okA
 rw [h, h2]; simp
theorem okA_yes (h : b q = true) (h2 : ¬ m.feeders < (numB b q : Int) + 1) (h3 : hasK m (ns.getD q default).key = true) : okA m ns b q = true := by
 unfold okA
 rw [h, h3, numB_yes h, decide_eq_true (by omega)]; rfl
theorem numB_le (b : Nat → Bool) : ∀ q, numB b q ≤ q
 | 0 => Nat.le_refl _
 | q + 1 => by have := numB_le b q; rw [numB]; split <;> omega
end
set_option maxRecDepth 100000 in
set_option maxHeartbeats 4000000 in
theorem bal_cycle {ms : List Mach} {ns : List NeedS} {u : Value} {k set : Nat} (hm : machF ms = 0) (hns : needsF ns 1 1000 = 0) (h12 : ns.length ≤ 12) (hk : k < ms.length) (hset : set < 9223372036854775808) :
  SpecN Tryz.prog 277 [.at_ 3 (balC ms ns u), avI (k : Int), avI (set : Int)] (fun y => y = avI (cycB (ms.getD k default) ns set.testBit)) := by
 have hM := MnOk.mk' hm hns
 have hlen := machF_len hm
 have hfe := (machF_each hm hk).1.2.2
 refine SpecN.of_VCN Tryz.func277 rfl Tryz.ntmps277 (Nle rfl) fun w A hB => ?_
 have hnew : True := trivial
 refine VC.sr ?_
 refine VO.ma rfl rfl rfl rfl ?_
 refine VO.nil ?_
 refine VC.sr ?_
 refine VO.mv rfl rfl rfl rfl ?_
 refine VO.val rfl rfl (OpV.nilCheck_at rfl rfl) ?_
 refine VO.val rfl rfl (OpV.fieldAddr_atO 0 rfl Tryz.underlying221 rfl rfl Tryz.sizeOf102 rfl rfl) ?_
 refine VO.val rfl rfl (OpV.load_at rfl hB OutW.no Tryz.isAgg102 rfl rfl) ?_
 refine VO.le _ (Le.recast (t := 15) (y := avL ms) rfl (fun w Z u h => h)) ?_
 refine VO.mv rfl rfl rfl rfl ?_
 refine VO.val rfl rfl (OpV.indexAddr_E rfl Tryz.underlying102 Tryz.sizeOf128 rfl rfl rfl (by omega)) ?_
 refine VO.val rfl rfl (OpV.loadK_at rfl hB OutW.no Tryz.isAgg128 Tryz.sizeOf128 rfl rfl) ?_
 refine VO.op rfl (OpE.alloc rfl hB rfl Tryz.zeroValue128 rfl ?_)
 intro g7
 refine VO.op rfl (OpE.store (i := 0) rfl hB rfl Tryz.sizeOf128 rfl rfl rfl rfl rfl rfl (Nle rfl) trivial ?_)
 refine VO.nil ?_
 refine VC.sr ?_
 refine VO.val rfl rfl (OpV.fieldAddrO 2 rfl Tryz.underlying128 rfl rfl Tryz.sizeOf3 rfl) ?_
 refine VO.val rfl rfl (OpV.load_own (i := 0) rfl hB Tryz.isAgg3 rfl rfl rfl (fun h => h)) ?_
 refine VO.ma rfl rfl rfl rfl ?_
 refine VO.ma rfl rfl rfl rfl ?_
 refine VO.nil ?_
 refine VC.seq ?_
 refine VC.sr ?_
 refine VO.mv rfl rfl rfl rfl ?_
 refine VO.val rfl rfl (OpV.nilCheck_at rfl rfl) ?_
 refine VO.val rfl rfl (OpV.fieldAddr_atO 1 rfl Tryz.underlying221 rfl rfl Tryz.sizeOf77 rfl rfl) ?_
 refine VO.val rfl rfl (OpV.load_at rfl hB OutW.no Tryz.isAgg77 rfl rfl) ?_
 refine VO.le _ (Le.recast (t := 24) (y := avL ns) rfl (fun w Z u h => h)) ?_
 refine VO.val rfl rfl (OpV.len_im rfl Tryz.underlying77 rfl) ?_
 refine VO.mv rfl rfl rfl rfl ?_
 refine VO.nil ?_
 refine VC.block ?_
 refine VC.loopK [(2, _), (7, _), (24, _), (25, _)] ⟨rfl, rfl, rfl, rfl, trivial⟩ ({q : Nat // q ≤ ns.length ∧ ∀ j, j < q → okA (ms.getD k default) ns set.testBit j = true}) (fun (iZ : {q : Nat // q ≤ ns.length ∧ ∀ j, j < q → okA (ms.getD k default) ns set.testBit j = true}) => match iZ with | ⟨q, hq, hn⟩ => [(8, avI (timB (ms.getD k default) ns set.testBit q)), (9, avI (numB set.testBit q : Int)), (26, avI (q : Int))]) (fun (iZ : {q : Nat // q ≤ ns.length ∧ ∀ j, j < q → okA (ms.getD k default) ns set.testBit j = true}) => match iZ with | ⟨q, hq, hn⟩ => [.box g7 ⟨tab 5 (Sxc.cell (ms.getD k default)), 128, 5⟩]) (fun (iZ : {q : Nat // q ≤ ns.length ∧ ∀ j, j < q → okA (ms.getD k default) ns set.testBit j = true}) => match iZ with | ⟨q, hq, hn⟩ => 0) (fun (iZ : {q : Nat // q ≤ ns.length ∧ ∀ j, j < q → okA (ms.getD k default) ns set.testBit j = true}) => match iZ with | ⟨q, hq, hn⟩ => ns.length - q) ⟨0, Nat.zero_le _, fun j hj => absurd hj (Nat.not_lt_zero j)⟩ (Le.mk hB [0] ⟨rfl, rfl, rfl, rfl, rfl, rfl, rfl, trivial⟩ rfl rfl (Nat.le_refl _)) ?_
 rintro ⟨q, hq, hn⟩
 show VC _ _ _ _ ⟨[(8, avI (timB (ms.getD k default) ns set.testBit q)), (9, avI (numB set.testBit q : Int)), (26, avI (q : Int))] ++ [(2, _), (7, _), (24, _), (25, _)], [.box g7 ⟨tab 5 (Sxc.cell (ms.getD k default)), 128, 5⟩], 0⟩
 have hti := timB_in hM k set.testBit q
 have hmu := mul_in2 (hM.each k) (hM.cnt q)
 have hnb := numB_le set.testBit q
 refine VC.sr ?_
 refine VO.val rfl rfl (OpV.lss rfl rfl rfl) ?_
 refine VO.nil ?_
 refine VC.seq ?_
 refine VC.cond rfl (fun aH1b => ?_) (fun aH1b => ?_)
 ·have aH1 := aH1b
  try simp only [qqT, qqF, qqN, qqM, qqL, qqE] at aH1
  refine VC.skip ?_
  refine VC.seq ?_
  refine VC.block ?_
  refine VC.sr ?_
  refine VO.mv rfl rfl rfl rfl ?_
  refine VO.val rfl rfl (OpV.indexAddr_E rfl Tryz.underlying77 Tryz.sizeOf96 rfl rfl rfl (by omega)) ?_
  refine VO.val rfl rfl (OpV.loadK_at rfl hB OutW.no Tryz.isAgg96 Tryz.sizeOf96 rfl rfl) ?_
  refine VO.op rfl (OpE.alloc rfl hB rfl Tryz.zeroValue96 rfl ?_)
  intro g11
  refine VO.ma rfl rfl rfl rfl ?_
  refine VO.op rfl (OpE.store (i := 1) rfl hB rfl Tryz.sizeOf96 rfl rfl rfl rfl rfl rfl (Nle rfl) trivial ?_)
  refine VO.nil ?_
  refine VC.seq ?_
  refine VC.sr ?_
  refine VO.mv rfl rfl rfl rfl ?_
  refine VO.mv rfl rfl rfl rfl ?_
  refine VO.val rfl rfl (OpV.bshr rfl rfl rfl (by omega)) ?_
  refine VO.val rfl rfl (OpV.band (b := 1) rfl rfl rfl (Nat.lt_of_le_of_lt (Nat.div_le_self _ _) hset) (by decide)) ?_
  refine VO.val rfl rfl (OpV.eql rfl rfl rfl) ?_
  refine VO.le _ (Le.recast (t := 35) (y := avB (!(set.testBit q))) rfl (fun w Z u h => by rw [← bit_no]; exact h)) ?_
  refine VO.nil ?_
  refine VC.cond rfl (fun h1b => ?_) (fun h1b => ?_)
  ·have h1 := h1b
   try simp only [qqT, qqF, qqN, qqM, qqL, qqE] at h1
   refine VC.exit ?_
   refine VC.region ?_
   refine VO.val rfl rfl (OpV.add rfl rfl rfl (by unfold fits; omega)) ?_
   refine VO.mv rfl rfl rfl rfl ?_
   refine VO.nil ?_
   exact Exists.intro (⟨q + 1, by omega, lt_succ_cases hn ((okA_skip h1))⟩) (And.intro (Le.mk hB [0] ⟨(by dsimp only; first | (rw [timB_no h1]; rfl) | (rw [timB_yes h1]; rfl)), (by dsimp only; first | (rw [numB_no h1]; rfl) | (rw [numB_yes h1]; rfl)), rfl, rfl, rfl, rfl, rfl, trivial⟩ rfl rfl (Nat.le_refl _)) (by first | omega | (show _ < _; omega) | (simp only []; omega)))
  ·have h1 := h1b
   try simp only [qqT, qqF, qqN, qqM, qqL, qqE] at h1
   refine VC.skip ?_
   refine VC.seq ?_
   refine VC.sr ?_
   refine VO.mv rfl rfl rfl rfl ?_
   refine VO.val rfl rfl (OpV.add rfl rfl rfl (by unfold fits; omega)) ?_
   refine VO.ma rfl rfl rfl rfl ?_
   refine VO.nil ?_
   refine VC.sr ?_
   refine VO.mv rfl rfl rfl rfl ?_
   refine VO.val rfl rfl (OpV.fieldAddrO 3 rfl Tryz.underlying128 rfl rfl Tryz.sizeOf3 rfl) ?_
   refine VO.val rfl rfl (OpV.load_own (i := 0) rfl hB Tryz.isAgg3 rfl rfl rfl (fun h => h)) ?_
   refine VO.val rfl rfl (OpV.gtr rfl rfl rfl) ?_
   refine VO.mv rfl rfl rfl rfl ?_
   refine VO.opG rfl rfl rfl rfl (fun aK2b => ?_) (fun aK2b => ?_)
   ·replace aK2b : _ = false := aK2b
    have aK2 := aK2b
    try simp only [qqT, qqF, qqN, qqM, qqL, qqE] at aK2
    refine OpE.val (W := NoB) (OpV.loadK_own (i := 0) rfl hB Tryz.isAgg128 Tryz.sizeOf128 rfl rfl rfl (fun h => h)) rfl ?_
    refine VO.opY rfl rfl rfl rfl aK2b ?_
    refine OpE.val (W := NoB) (OpV.fieldAddrO 0 rfl Tryz.underlying96 rfl rfl Tryz.sizeOf9 rfl) rfl ?_
    refine VO.opY rfl rfl rfl rfl aK2b ?_
    refine OpE.val (W := NoB) (OpV.load_own (i := 1) rfl hB Tryz.isAgg9 rfl rfl rfl (fun h => h)) rfl ?_
    refine VO.opY rfl rfl rfl rfl aK2b ?_
    refine OpE.call rfl hB rfl Tryz.call179 rfl (SpecN.spec (line_can (by have := canF_keys (machF_each hm hk).2; omega) (canF_sort (machF_each hm hk).2))) ?_
    rintro _ rfl
    refine VO.opY rfl rfl rfl rfl aK2b ?_
    refine OpE.val (W := NoB) (OpV.not rfl rfl) rfl ?_
    refine VO.val rfl rfl (OpV.pickF rfl rfl rfl rfl aK2b) ?_
    refine VO.nil ?_
    refine VC.cond rfl (fun h2b => ?_) (fun h2b => ?_)
    ·have h2 := h2b
     try simp only [qqT, qqF, qqN, qqM, qqL, qqE] at h2
     refine VC.sr ?_
     refine VO.ma rfl rfl rfl rfl ?_
     refine VO.nil ?_
     refine VC.ret ?_
     exact Exists.intro _ (And.intro (RetN.one Tryz.results277 (ResN.v rfl)) (by first | rw [okB_no (i := q) (by omega) (okA_f1 h1 (by omega))] | rw [okB_no (i := q) (by omega) (okA_f2 h1 (by simpa using h2))]))
    ·have h2 := h2b
     try simp only [qqT, qqF, qqN, qqM, qqL, qqE] at h2
     refine VC.skip ?_
     refine VC.region ?_
     refine VO.mv rfl rfl rfl rfl ?_
     refine VO.val rfl rfl (OpV.fieldAddrO 1 rfl Tryz.underlying128 rfl rfl Tryz.sizeOf3 rfl) ?_
     refine VO.val rfl rfl (OpV.load_own (i := 0) rfl hB Tryz.isAgg3 rfl rfl rfl (fun h => h)) ?_
     refine VO.val rfl rfl (OpV.fieldAddrO 1 rfl Tryz.underlying96 rfl rfl Tryz.sizeOf3 rfl) ?_
     refine VO.val rfl rfl (OpV.load_own (i := 1) rfl hB Tryz.isAgg3 rfl rfl rfl (fun h => h)) ?_
     refine VO.val rfl rfl (OpV.mul rfl rfl rfl (by unfold fits; omega)) ?_
     refine VO.val rfl rfl (OpV.add rfl rfl rfl (by unfold fits; omega)) ?_
     refine VO.ma rfl rfl rfl rfl ?_
     refine VO.nil ?_
     refine VC.region ?_
     refine VO.val rfl rfl (OpV.add rfl rfl rfl (by unfold fits; omega)) ?_
     refine VO.mv rfl rfl rfl rfl ?_
     refine VO.nil ?_
     exact Exists.intro (⟨q + 1, by omega, lt_succ_cases hn ((okA_yes h1 (by omega) (by simpa using h2)))⟩) (And.intro (Le.mk hB [0] ⟨(by dsimp only; first | (rw [timB_no h1]; rfl) | (rw [timB_yes h1]; rfl)), (by dsimp only; first | (rw [numB_no h1]; rfl) | (rw [numB_yes h1]; rfl)), rfl, rfl, rfl, rfl, rfl, trivial⟩ rfl rfl (Nat.le_refl _)) (by first | omega | (show _ < _; omega) | (simp only []; omega)))
   ·replace aK2b : _ = true := aK2b
    have aK2 := aK2b
    try simp only [qqT, qqF, qqN, qqM, qqL, qqE] at aK2
    refine VO.opX rfl rfl rfl rfl aK2b ?_
    refine VO.opX rfl rfl rfl rfl aK2b ?_
    refine VO.opX rfl rfl rfl rfl aK2b ?_
    refine VO.opX rfl rfl rfl rfl aK2b ?_
    refine VO.val rfl rfl (OpV.pickT rfl rfl rfl rfl aK2b) ?_
    refine VO.nil ?_
    refine VC.condT rfl rfl ?_
    refine VC.sr ?_
    refine VO.ma rfl rfl rfl rfl ?_
    refine VO.nil ?_
    refine VC.ret ?_
    exact Exists.intro _ (And.intro (RetN.one Tryz.results277 (ResN.v rfl)) (by first | rw [okB_no (i := q) (by omega) (okA_f1 h1 (by omega))] | rw [okB_no (i := q) (by omega) (okA_f2 h1 (by simpa using h2))]))
 ·have aH1 := aH1b
  try simp only [qqT, qqF, qqN, qqM, qqL, qqE] at aH1
  refine VC.exit ?_
  refine VC.sr ?_
  refine VO.mv rfl rfl rfl rfl ?_
  refine VO.ma rfl rfl rfl rfl ?_
  refine VO.nil ?_
  refine VC.ret ?_
  exact Exists.intro _ (And.intro (RetN.one Tryz.results277 (ResN.v rfl)) (by rw [okB_all (fun i hi => hn i (by omega)), show q = ns.length by omega]))
theorem or_lt12 {a b : Nat} (ha : a < 4096) (hb : b < 4096) : a ||| b < 4096 := Nat.or_lt_two_pow (n := 12) ha hb
abbrev fixB (gf n : Nat) (fx : Nat → Nat) : Ent := .box gf ⟨intsL (tabI n fun k => (fx k : Int)), 3, n⟩
theorem belS_zero' {ms : List Mach} {ns : List NeedS} {fx : Nat → Nat} {r : Nat} {bl : List Int} (h : bl.length = r + 1) (hn : ∀ j, j < r + 1 → bl.getD j 0 = neverC) : SetI r (belS ms ns fx 0) (bl.set 0 0) := ⟨by rw [List.length_set]; exact h, fun s hs => by
 have := hs.le
 rw [getDs (by omega), belS]
 by_cases e : s = 0
 ·rw [if_pos e, if_pos e]
 ·rw [if_neg e, if_neg e]; exact hn s (by omega)⟩
theorem intsL_getV {xs : List Int} {j : Nat} {v : Int} (h : j < xs.length) (hv : xs.getD j 0 = v) : (intsL xs)[j]? = some (avI v) := by rw [intsL_get h, hv]
theorem setInt_get {l : List Int} {j : Nat} {v : Int} (h : j < l.length) : (intsL (l.set j v))[j]? = some (avI v) := by rw [intsL_get (by rw [List.length_set]; exact h), getDs h, if_pos rfl]
theorem setInt_set (l : List Int) (j : Nat) (v x : Int) : (intsL (l.set j v)).set j (avI x) = intsL (l.set j x) := by rw [intsL_set, List.set_set]
theorem rep_len (n : Nat) (x : Int) : (List.replicate n x).length = n := by simp
set_option maxRecDepth 100000 in
set_option maxHeartbeats 16000000 in
theorem bal_longest {ms : List Mach} {ns : List NeedS} {gf : Nat} {fx : Nat → Nat} {rest : Nat} (hm : machF ms = 0) (hn : needsF ns 1 1000 = 0) (h12 : ns.length ≤ 12) (hr : rest < 4096) (hfx : ∀ k, fx k < 4096) :
  SpecH Tryz.prog 173 [.at_ 3 (balC ms ns (.slice (some ⟨gf, 0, none⟩) ms.length ms.length)), avI (rest : Int)] [fixB gf ms.length fx] (fun y hp' => y = avI (belS ms ns fx ms.length rest) ∧ hp' = [fixB gf ms.length fx]) := by
 have hMn := MnOk.mk' hm hn
 have hlen := machF_len hm
 refine SpecH.of_VC Tryz.func173 rfl Tryz.ntmps173 (Nle rfl) fun w A hB => ?_
 have hnew : True := trivial
 refine VC.sr ?_
 refine VO.ma rfl rfl rfl rfl ?_
 refine VO.nil ?_
 refine VC.sr ?_
 refine VO.mv rfl rfl rfl rfl ?_
 refine VO.val rfl rfl (OpV.add rfl rfl rfl (by unfold fits; omega)) ?_
 refine VO.op rfl (OpE.make rfl hB rfl Tryz.underlying22 (infoOf Tryz.t3 1 (by kernel_rfl) rfl rfl) (by decide) rfl rfl (n := rest + 1) (by omega) (by omega) (by omega) (made_ints _) ?_)
 intro g15
 rw [intsL_len, List.length_replicate]
 refine VO.ma rfl rfl rfl rfl ?_
 refine VO.nil ?_
 refine VC.seq ?_
 refine VC.sr ?_
 refine VO.mv rfl rfl rfl rfl ?_
 refine VO.val rfl rfl (OpV.len_v rfl Tryz.underlying22 rfl) ?_
 refine VO.mv rfl rfl rfl rfl ?_
 refine VO.nil ?_
 refine VC.block ?_
 refine VC.loopK [(0, _), (1, _), (5, _), (17, _)] ⟨rfl, rfl, rfl, rfl, trivial⟩ ({z : List Int × Nat // z.2 ≤ rest + 1 ∧ z.1.length = rest + 1 ∧ ∀ j, j < z.2 → z.1.getD j 0 = neverC}) (fun (iZ : {z : List Int × Nat // z.2 ≤ rest + 1 ∧ z.1.length = rest + 1 ∧ ∀ j, j < z.2 → z.1.getD j 0 = neverC}) => match iZ with | ⟨⟨bl, q⟩, hq, hbl, hbn⟩ => [(18, avI (q : Int))]) (fun (iZ : {z : List Int × Nat // z.2 ≤ rest + 1 ∧ z.1.length = rest + 1 ∧ ∀ j, j < z.2 → z.1.getD j 0 = neverC}) => match iZ with | ⟨⟨bl, q⟩, hq, hbl, hbn⟩ => [fixB gf ms.length fx, .box g15 ⟨intsL bl, 3, rest + 1⟩]) (fun (iZ : {z : List Int × Nat // z.2 ≤ rest + 1 ∧ z.1.length = rest + 1 ∧ ∀ j, j < z.2 → z.1.getD j 0 = neverC}) => match iZ with | ⟨⟨bl, q⟩, hq, hbl, hbn⟩ => 0) (fun (iZ : {z : List Int × Nat // z.2 ≤ rest + 1 ∧ z.1.length = rest + 1 ∧ ∀ j, j < z.2 → z.1.getD j 0 = neverC}) => match iZ with | ⟨⟨bl, q⟩, hq, hbl, hbn⟩ => rest + 1 - q) ⟨(List.replicate (rest + 1) 0, 0), Nat.zero_le _, rep_len _ _, fun j hj => absurd hj (Nat.not_lt_zero j)⟩ (Le.mk hB [0, 1] ⟨rfl, rfl, rfl, rfl, rfl, trivial⟩ rfl rfl (Nat.le_refl _)) ?_
 rintro ⟨⟨bl, q⟩, hq, hbl, hbn⟩
 show VC _ _ _ _ ⟨[(18, avI (q : Int))] ++ [(0, _), (1, _), (5, _), (17, _)], [fixB gf ms.length fx, .box g15 ⟨intsL bl, 3, rest + 1⟩], 0⟩
 simp only at hq hbl hbn
 refine VC.sr ?_
 refine VO.val rfl rfl (OpV.lss rfl rfl rfl) ?_
 refine VO.nil ?_
 refine VC.seq ?_
 refine VC.cond rfl (fun aH1b => ?_) (fun aH1b => ?_)
 ·have aH1 := aH1b
  try simp only [qqT, qqF, qqN, qqM, qqL, qqE] at aH1
  refine VC.skip ?_
  refine VC.seq ?_
  refine VC.block ?_
  refine VC.sr ?_
  refine VO.mv rfl rfl rfl rfl ?_
  refine VO.ma rfl rfl rfl rfl ?_
  refine VO.nil ?_
  refine VC.region ?_
  refine VO.mv rfl rfl rfl rfl ?_
  refine VO.mv rfl rfl rfl rfl ?_
  refine VO.val rfl rfl (OpV.indexAddr_o rfl Tryz.underlying22 Tryz.sizeOf3 rfl rfl rfl (by omega)) ?_
  refine VO.op rfl (OpE.store1 (i := 1) rfl hB rfl Tryz.sizeOf3 rfl rfl rfl rfl rfl rfl (by rw [intsL_len]; omega) (intsL_set _ _ _) trivial ?_)
  refine VO.nil ?_
  refine VC.region ?_
  refine VO.val rfl rfl (OpV.add rfl rfl rfl (by unfold fits; omega)) ?_
  refine VO.mv rfl rfl rfl rfl ?_
  refine VO.nil ?_
  exact Exists.intro (⟨(bl.set q neverC, q + 1), by show q + 1 ≤ _; omega, by show (bl.set q neverC).length = _; rw [List.length_set]; exact hbl, fun j hj => by show (bl.set q neverC).getD j 0 = _; rw [getDs (by omega)]; by_cases e : j = q; (rw [if_pos e]); (rw [if_neg e]; exact hbn j (by have : j < q + 1 := hj; omega))⟩) (And.intro (Le.mk hB [0, 1] ⟨rfl, rfl, rfl, rfl, rfl, trivial⟩ rfl rfl (Nat.le_refl _)) (by first | omega | (show _ < _; omega) | (simp only []; omega)))
 ·have aH1 := aH1b
  try simp only [qqT, qqF, qqN, qqM, qqL, qqE] at aH1
  refine VC.exit ?_
  refine VC.sr ?_
  refine VO.mv rfl rfl rfl rfl ?_
  refine VO.val rfl rfl (OpV.indexAddr_o rfl Tryz.underlying22 Tryz.sizeOf3 rfl rfl (Int.toNat_of_nonneg (by omega)).symm (by omega)) ?_
  refine VO.op rfl (OpE.store1 (i := 1) rfl hB rfl Tryz.sizeOf3 rfl rfl rfl rfl rfl rfl (by rw [intsL_len]; omega) (intsL_set _ _ _) trivial ?_)
  refine VO.nil ?_
  refine VC.seq ?_
  refine VC.sr ?_
  refine VO.mv rfl rfl rfl rfl ?_
  refine VO.val rfl rfl (OpV.nilCheck_at rfl rfl) ?_
  refine VO.val rfl rfl (OpV.fieldAddr_atO 0 rfl Tryz.underlying221 rfl rfl Tryz.sizeOf102 rfl rfl) ?_
  refine VO.val rfl rfl (OpV.load_at rfl hB OutW.no Tryz.isAgg102 rfl rfl) ?_
  refine VO.val rfl rfl (OpV.len_im rfl Tryz.underlying102 rfl) ?_
  refine VO.mv rfl rfl rfl rfl ?_
  refine VO.nil ?_
  refine VC.block ?_
  refine VC.loopK [(0, _), (1, _), (31, _)] ⟨rfl, rfl, rfl, trivial⟩ ({z : Nat × List Int × Nat // z.2.2 ≤ ms.length ∧ SetI rest (belS ms ns fx z.2.2) z.2.1}) (fun (iZ : {z : Nat × List Int × Nat // z.2.2 ≤ ms.length ∧ SetI rest (belS ms ns fx z.2.2) z.2.1}) => match iZ with | ⟨⟨gb, bl, k⟩, hk, hS⟩ => [(5, .v (.slice (some ⟨gb, 0, none⟩) (rest + 1) (rest + 1))), (32, avI (k : Int))]) (fun (iZ : {z : Nat × List Int × Nat // z.2.2 ≤ ms.length ∧ SetI rest (belS ms ns fx z.2.2) z.2.1}) => match iZ with | ⟨⟨gb, bl, k⟩, hk, hS⟩ => [fixB gf ms.length fx, .box gb ⟨intsL bl, 3, rest + 1⟩]) (fun (iZ : {z : Nat × List Int × Nat // z.2.2 ≤ ms.length ∧ SetI rest (belS ms ns fx z.2.2) z.2.1}) => match iZ with | ⟨⟨gb, bl, k⟩, hk, hS⟩ => 0) (fun (iZ : {z : Nat × List Int × Nat // z.2.2 ≤ ms.length ∧ SetI rest (belS ms ns fx z.2.2) z.2.1}) => match iZ with | ⟨⟨gb, bl, k⟩, hk, hS⟩ => ms.length - k) ⟨(g15, bl.set 0 0, 0), Nat.zero_le _, belS_zero' hbl (fun j hj => hbn j (by omega))⟩ (Le.mk hB [0, 1] ⟨rfl, rfl, rfl, rfl, rfl, trivial⟩ rfl rfl (Nat.le_refl _)) ?_
  rintro ⟨⟨gb, bl, k⟩, hk, hS⟩
  show VC _ _ _ _ ⟨[(5, .v (.slice (some ⟨gb, 0, none⟩) (rest + 1) (rest + 1))), (32, avI (k : Int))] ++ [(0, _), (1, _), (31, _)], [fixB gf ms.length fx, .box gb ⟨intsL bl, 3, rest + 1⟩], 0⟩
  simp only at hk hS
  have hbl := hS.len
  refine VC.sr ?_
  refine VO.val rfl rfl (OpV.lss rfl rfl rfl) ?_
  refine VO.nil ?_
  refine VC.seq ?_
  refine VC.cond rfl (fun aH2b => ?_) (fun aH2b => ?_)
  ·have aH2 := aH2b
   try simp only [qqT, qqF, qqN, qqM, qqL, qqE] at aH2
   refine VC.skip ?_
   refine VC.seq ?_
   refine VC.block ?_
   refine VC.sr ?_
   refine VO.mv rfl rfl rfl rfl ?_
   refine VO.ma rfl rfl rfl rfl ?_
   refine VO.nil ?_
   refine VC.sr ?_
   refine VO.mv rfl rfl rfl rfl ?_
   refine VO.val rfl rfl (OpV.add rfl rfl rfl (by unfold fits; omega)) ?_
   refine VO.op rfl (OpE.make rfl hB rfl Tryz.underlying22 (infoOf Tryz.t3 1 (by kernel_rfl) rfl rfl) (by decide) rfl rfl (n := rest + 1) (by omega) (by omega) (by omega) (made_ints _) ?_)
   intro g37
   rw [intsL_len, List.length_replicate]
   refine VO.ma rfl rfl rfl rfl ?_
   refine VO.nil ?_
   refine VC.seq ?_
   refine VC.sr ?_
   refine VO.mv rfl rfl rfl rfl ?_
   refine VO.ma rfl rfl rfl rfl ?_
   refine VO.nil ?_
   refine VC.block ?_
   refine VC.loopK [(0, _), (1, _), (5, _), (7, _), (8, _), (31, _), (32, _)] ⟨rfl, rfl, rfl, rfl, rfl, rfl, rfl, trivial⟩ ({z : List Int × Nat // SetG rest z.2 (alnS ms ns fx k) z.1}) (fun (iZ : {z : List Int × Nat // SetG rest z.2 (alnS ms ns fx k) z.1}) => match iZ with | ⟨⟨al, cur⟩, hG⟩ => [(9, avI (cur : Int))]) (fun (iZ : {z : List Int × Nat // SetG rest z.2 (alnS ms ns fx k) z.1}) => match iZ with | ⟨⟨al, cur⟩, hG⟩ => [fixB gf ms.length fx, .box gb ⟨intsL bl, 3, rest + 1⟩, .box g37 ⟨intsL al, 3, rest + 1⟩]) (fun (iZ : {z : List Int × Nat // SetG rest z.2 (alnS ms ns fx k) z.1}) => match iZ with | ⟨⟨al, cur⟩, hG⟩ => 0) (fun (iZ : {z : List Int × Nat // SetG rest z.2 (alnS ms ns fx k) z.1}) => match iZ with | ⟨⟨al, cur⟩, hG⟩ => cur) ⟨(List.replicate (rest + 1) 0, rest), SetG.start (rep_len _ _)⟩ (Le.mk hB [0, 1, 2] ⟨rfl, rfl, rfl, rfl, rfl, rfl, rfl, rfl, trivial⟩ rfl rfl (Nat.le_refl _)) ?_
   rintro ⟨⟨al, cur⟩, hG⟩
   show VC _ _ _ _ ⟨[(9, avI (cur : Int))] ++ [(0, _), (1, _), (5, _), (7, _), (8, _), (31, _), (32, _)], [fixB gf ms.length fx, .box gb ⟨intsL bl, 3, rest + 1⟩, .box g37 ⟨intsL al, 3, rest + 1⟩], 0⟩
   simp only at hG
   have hcl := hG.lt
   have hcl2 := hG.len
   refine VC.seq ?_
   refine VC.block ?_
   refine VC.sr ?_
   refine VO.mv rfl rfl rfl rfl ?_
   refine VO.mv rfl rfl rfl rfl ?_
   refine VO.mv rfl rfl rfl rfl ?_
   refine VO.mv rfl rfl rfl rfl ?_
   refine VO.mv rfl rfl rfl rfl ?_
   refine VO.val rfl rfl (OpV.nilCheck_at rfl rfl) ?_
   refine VO.val rfl rfl (OpV.fieldAddr_atO 2 rfl Tryz.underlying221 rfl rfl Tryz.sizeOf22 rfl rfl) ?_
   refine VO.val rfl rfl (OpV.load_at rfl hB OutW.no Tryz.isAgg22 rfl rfl) ?_
   refine VO.mv rfl rfl rfl rfl ?_
   refine VO.val rfl rfl (OpV.indexAddr_o rfl Tryz.underlying22 Tryz.sizeOf3 rfl rfl rfl (by omega)) ?_
   refine VO.val rfl rfl (OpV.load_own (i := 0) rfl hB Tryz.isAgg3 rfl rfl (intsT_get (by omega)) (fun h => h)) ?_
   refine VO.mv rfl rfl rfl rfl ?_
   refine VO.val rfl rfl (OpV.bor rfl rfl rfl (Nat.lt_trans (hfx k) (by decide)) (by omega)) ?_
   refine VO.op rfl (OpE.call rfl hB rfl Tryz.call277 rfl (SpecN.spec (bal_cycle hm hn h12 (by omega) (by have := or_lt12 (hfx k) (show cur < 4096 by omega); omega))) ?_)
   rintro _ rfl
   refine VO.val rfl rfl (OpV.indexAddr_o rfl Tryz.underlying22 Tryz.sizeOf3 rfl rfl rfl (by omega)) ?_
   refine VO.op rfl (OpE.store1 (i := 2) rfl hB rfl Tryz.sizeOf3 rfl rfl rfl rfl rfl rfl (by rw [intsL_len]; omega) (intsL_set _ _ _) trivial ?_)
   refine VO.nil ?_
   refine VC.sr ?_
   refine VO.mv rfl rfl rfl rfl ?_
   refine VO.val rfl rfl (OpV.eql rfl rfl rfl) ?_
   refine VO.nil ?_
   refine VC.cond rfl (fun h2b => ?_) (fun h2b => ?_)
   ·have h2 := h2b
    try simp only [qqT, qqF, qqN, qqM, qqL, qqE] at h2
    obtain ⟨al2, hA2, hA⟩ : ∃ al2, al.set cur (alnS ms ns fx k cur) = al2 ∧ SetI rest (alnS ms ns fx k) al2 := ⟨_, rfl, hG.last (by omega) rfl⟩
    refine VC.le _ (Le.pickH (hp := [fixB gf ms.length fx, .box gb ⟨intsL bl, 3, rest + 1⟩, .box g37 ⟨intsL al2, 3, rest + 1⟩]) [0, 1, 2] rfl (by rw [← hA2]; rfl)) ?_
    have hal := hA.len
    refine VC.exit ?_
    refine VC.sr ?_
    refine VO.mv rfl rfl rfl rfl ?_
    refine VO.val rfl rfl (OpV.add rfl rfl rfl (by unfold fits; omega)) ?_
    refine VO.op rfl (OpE.make rfl hB rfl Tryz.underlying22 (infoOf Tryz.t3 1 (by kernel_rfl) rfl rfl) (by decide) rfl rfl (n := rest + 1) (by omega) (by omega) (by omega) (made_ints _) ?_)
    intro g62
    rw [intsL_len, List.length_replicate]
    refine VO.ma rfl rfl rfl rfl ?_
    refine VO.nil ?_
    refine VC.seq ?_
    refine VC.sr ?_
    refine VO.mv rfl rfl rfl rfl ?_
    refine VO.ma rfl rfl rfl rfl ?_
    refine VO.nil ?_
    refine VC.block ?_
    refine VC.loopK [(0, _), (1, _), (5, _), (8, _), (10, _), (31, _), (32, _)] ⟨rfl, rfl, rfl, rfl, rfl, rfl, rfl, trivial⟩ ({z : List Int × Nat // SetG rest z.2 (belS ms ns fx (k + 1)) z.1}) (fun (iZ : {z : List Int × Nat // SetG rest z.2 (belS ms ns fx (k + 1)) z.1}) => match iZ with | ⟨⟨af, s⟩, hF⟩ => [(11, avI (s : Int))]) (fun (iZ : {z : List Int × Nat // SetG rest z.2 (belS ms ns fx (k + 1)) z.1}) => match iZ with | ⟨⟨af, s⟩, hF⟩ => [fixB gf ms.length fx, .box gb ⟨intsL bl, 3, rest + 1⟩, .box g37 ⟨intsL al2, 3, rest + 1⟩, .box g62 ⟨intsL af, 3, rest + 1⟩]) (fun (iZ : {z : List Int × Nat // SetG rest z.2 (belS ms ns fx (k + 1)) z.1}) => match iZ with | ⟨⟨af, s⟩, hF⟩ => 0) (fun (iZ : {z : List Int × Nat // SetG rest z.2 (belS ms ns fx (k + 1)) z.1}) => match iZ with | ⟨⟨af, s⟩, hF⟩ => s) ⟨(List.replicate (rest + 1) 0, rest), SetG.start (rep_len _ _)⟩ (Le.mk hB [0, 1, 2, 3] ⟨rfl, rfl, rfl, rfl, rfl, rfl, rfl, rfl, trivial⟩ rfl rfl (Nat.le_refl _)) ?_
    rintro ⟨⟨af, s⟩, hF⟩
    show VC _ _ _ _ ⟨[(11, avI (s : Int))] ++ [(0, _), (1, _), (5, _), (8, _), (10, _), (31, _), (32, _)], [fixB gf ms.length fx, .box gb ⟨intsL bl, 3, rest + 1⟩, .box g37 ⟨intsL al2, 3, rest + 1⟩, .box g62 ⟨intsL af, 3, rest + 1⟩], 0⟩
    simp only at hF
    have hsl := hF.lt
    have hsl2 := hF.len
    refine VC.seq ?_
    refine VC.block ?_
    refine VC.sr ?_
    refine VO.mv rfl rfl rfl rfl ?_
    refine VO.mv rfl rfl rfl rfl ?_
    refine VO.val rfl rfl (OpV.indexAddr_o rfl Tryz.underlying22 Tryz.sizeOf3 rfl rfl rfl (by omega)) ?_
    refine VO.op rfl (OpE.store1 (i := 3) rfl hB rfl Tryz.sizeOf3 rfl rfl rfl rfl rfl rfl (by rw [intsL_len]; omega) (intsL_set _ _ _) trivial ?_)
    refine VO.nil ?_
    refine VC.seq ?_
    refine VC.sr ?_
    refine VO.mv rfl rfl rfl rfl ?_
    refine VO.ma rfl rfl rfl rfl ?_
    refine VO.nil ?_
    refine VC.block ?_
    refine VC.loopK [(0, _), (1, _), (5, _), (8, _), (10, _), (11, _), (31, _), (32, _)] ⟨rfl, rfl, rfl, rfl, rfl, rfl, rfl, rfl, trivial⟩ ({z : Int × Nat // MinI (mxBA ms ns fx k s) s z.2 z.1}) (fun (iZ : {z : Int × Nat // MinI (mxBA ms ns fx k s) s z.2 z.1}) => match iZ with | ⟨⟨v, c⟩, hV⟩ => [(12, avI (c : Int))]) (fun (iZ : {z : Int × Nat // MinI (mxBA ms ns fx k s) s z.2 z.1}) => match iZ with | ⟨⟨v, c⟩, hV⟩ => [fixB gf ms.length fx, .box gb ⟨intsL bl, 3, rest + 1⟩, .box g37 ⟨intsL al2, 3, rest + 1⟩, .box g62 ⟨intsL (af.set s v), 3, rest + 1⟩]) (fun (iZ : {z : Int × Nat // MinI (mxBA ms ns fx k s) s z.2 z.1}) => match iZ with | ⟨⟨v, c⟩, hV⟩ => 0) (fun (iZ : {z : Int × Nat // MinI (mxBA ms ns fx k s) s z.2 z.1}) => match iZ with | ⟨⟨v, c⟩, hV⟩ => c) ⟨(neverC, s), MinI.start _ _⟩ (Le.mk hB [0, 1, 2, 3] ⟨rfl, rfl, rfl, rfl, rfl, rfl, rfl, rfl, rfl, trivial⟩ rfl rfl (Nat.le_refl _)) ?_
    rintro ⟨⟨v, c⟩, hV⟩
    show VC _ _ _ _ ⟨[(12, avI (c : Int))] ++ [(0, _), (1, _), (5, _), (8, _), (10, _), (11, _), (31, _), (32, _)], [fixB gf ms.length fx, .box gb ⟨intsL bl, 3, rest + 1⟩, .box g37 ⟨intsL al2, 3, rest + 1⟩, .box g62 ⟨intsL (af.set s v), 3, rest + 1⟩], 0⟩
    simp only at hV
    have hvs := hV.sub.le
    have hds : ndiff s c ≤ s := (SubN.diff s c).le
    have hb1 := hS.at_ (ndiff s c) (SubN.of_sub hF.sub)
    have hb2 := hA.at_ c (hV.sub.trans hF.sub)
    refine VC.seq ?_
    refine VC.block ?_
    refine VC.seq ?_
    refine VC.draw (fun j b => j = 19 ∧ b = g62) hB (by kernel_rfl) ?_
    refine VA.take (i := 0) rfl (by kernel_rfl) (by kernel_rfl) (by kernel_rfl) rfl rfl (OpV.move (.inl rfl) rfl) ?_
    refine VA.take (i := 1) rfl (by kernel_rfl) (by kernel_rfl) (by kernel_rfl) rfl rfl (OpV.move (.inl rfl) rfl) ?_
    refine VA.take (i := 2) rfl (by kernel_rfl) (by kernel_rfl) (by kernel_rfl) rfl rfl (OpV.move (.inl rfl) rfl) ?_
    refine VA.take (i := 3) rfl (by kernel_rfl) (by kernel_rfl) (by kernel_rfl) rfl rfl (OpV.move (.inl rfl) rfl) ?_
    refine VA.take (i := 4) rfl (by kernel_rfl) (by kernel_rfl) (by kernel_rfl) rfl rfl (OpV.indexAddr_o rfl Tryz.underlying22 Tryz.sizeOf3 rfl rfl rfl (by omega)) ?_
    refine VA.takeT [5, 17, 19] (i := 5) (by kernel_rfl) (by kernel_rfl) rfl (by kernel_rfl) (by kernel_rfl) (by kernel_rfl) rfl rfl (OpV.load_own (i := 3) rfl hB Tryz.isAgg3 rfl rfl (setInt_get (by omega)) (fun ⟨j, h1, h2, _⟩ => by subst h2; cases h1)) ?_
    refine VA.take (i := 6) rfl (by kernel_rfl) (by kernel_rfl) (by kernel_rfl) rfl rfl (OpV.move (.inl rfl) rfl) ?_
    refine VA.take (i := 7) rfl (by kernel_rfl) (by kernel_rfl) (by kernel_rfl) rfl rfl (OpV.move (.inl rfl) rfl) ?_
    refine VA.take (i := 8) rfl (by kernel_rfl) (by kernel_rfl) (by kernel_rfl) rfl rfl (OpV.move (.inl rfl) rfl) ?_
    refine VA.take (i := 9) rfl (by kernel_rfl) (by kernel_rfl) (by kernel_rfl) rfl rfl (OpV.bdiff (a := s) (b := c) rfl rfl rfl (by omega) (by omega)) ?_
    refine VA.take (i := 10) rfl (by kernel_rfl) (by kernel_rfl) (by kernel_rfl) rfl rfl (OpV.indexAddr_o rfl Tryz.underlying22 Tryz.sizeOf3 rfl rfl rfl (by omega)) ?_
    refine VA.takeT [11, 16, 17, 19] (i := 11) (by kernel_rfl) (by kernel_rfl) rfl (by kernel_rfl) (by kernel_rfl) (by kernel_rfl) rfl rfl (OpV.load_own (i := 1) rfl hB Tryz.isAgg3 rfl rfl (intsL_getV (by omega) hb1) (fun ⟨j, h1, h2, _⟩ => by subst h2; cases h1)) ?_
    refine VA.take (i := 12) rfl (by kernel_rfl) (by kernel_rfl) (by kernel_rfl) rfl rfl (OpV.move (.inl rfl) rfl) ?_
    refine VA.take (i := 13) rfl (by kernel_rfl) (by kernel_rfl) (by kernel_rfl) rfl rfl (OpV.move (.inl rfl) rfl) ?_
    refine VA.take (i := 14) rfl (by kernel_rfl) (by kernel_rfl) (by kernel_rfl) rfl rfl (OpV.indexAddr_o rfl Tryz.underlying22 Tryz.sizeOf3 rfl rfl rfl (by omega)) ?_
    refine VA.takeT [15, 16, 17, 19] (i := 15) (by kernel_rfl) (by kernel_rfl) rfl (by kernel_rfl) (by kernel_rfl) (by kernel_rfl) rfl rfl (OpV.load_own (i := 2) rfl hB Tryz.isAgg3 rfl rfl (intsL_getV (by omega) hb2) (fun ⟨j, h1, h2, _⟩ => by subst h2; cases h1)) ?_
    refine VA.take (i := 16) rfl (by kernel_rfl) (by kernel_rfl) (by kernel_rfl) rfl rfl (OpV.max2 rfl rfl rfl) ?_
    refine VA.take (i := 17) rfl (by kernel_rfl) (by kernel_rfl) (by kernel_rfl) rfl rfl (OpV.min2 rfl rfl rfl) ?_
    refine VA.take (i := 18) rfl (by kernel_rfl) (by kernel_rfl) (by kernel_rfl) rfl rfl (OpV.indexAddr_o rfl Tryz.underlying22 Tryz.sizeOf3 rfl rfl rfl (by omega)) ?_
    refine VA.all (rs := [19]) (by kernel_rfl) (by decide) ?_
    refine ⟨⟨_, rfl, .inl rfl, ?_⟩, trivial⟩
    refine OpE.store1 (i := 3) rfl hB rfl Tryz.sizeOf3 rfl rfl rfl rfl rfl rfl (by rw [intsL_len, List.length_set]; omega) (setInt_set _ _ _ _) (by first | exact ⟨rfl, rfl⟩ | exact .inl ⟨rfl, rfl⟩ | exact .inr ⟨rfl, rfl⟩ | exact ⟨rfl, trivial⟩ | exact .inl ⟨rfl, trivial⟩ | exact .inr ⟨rfl, trivial⟩ | exact ⟨by decide, rfl⟩) ?_
    refine VA.done (by kernel_rfl) ?_
    refine VC.sr ?_
    refine VO.mv rfl rfl rfl rfl ?_
    refine VO.val rfl rfl (OpV.eql rfl rfl rfl) ?_
    refine VO.nil ?_
    refine VC.cond rfl (fun h3b => ?_) (fun h3b => ?_)
    ·have h3 := h3b
     try simp only [qqT, qqF, qqN, qqM, qqL, qqE] at h3
     have hfin : min v (mxBA ms ns fx k s c) = belS ms ns fx (k + 1) s := hV.last (mxBA_nn hMn k s) (by omega)
     refine VC.le _ (Le.pickH (hp := [fixB gf ms.length fx, .box gb ⟨intsL bl, 3, rest + 1⟩, .box g37 ⟨intsL al2, 3, rest + 1⟩, .box g62 ⟨intsL (af.set s (belS ms ns fx (k + 1) s)), 3, rest + 1⟩]) [0, 1, 2, 3] rfl (by rw [← hfin]; rfl)) ?_
     refine VC.exit ?_
     refine VC.sr ?_
     refine VO.mv rfl rfl rfl rfl ?_
     refine VO.val rfl rfl (OpV.eql rfl rfl rfl) ?_
     refine VO.nil ?_
     refine VC.cond rfl (fun h4b => ?_) (fun h4b => ?_)
     ·have h4 := h4b
      try simp only [qqT, qqF, qqN, qqM, qqL, qqE] at h4
      obtain ⟨af2, hF1, hF2⟩ : ∃ af2, af.set s (belS ms ns fx (k + 1) s) = af2 ∧ SetI rest (belS ms ns fx (k + 1)) af2 := ⟨_, rfl, hF.last (by omega) rfl⟩
      refine VC.le _ (Le.pickH (hp := [fixB gf ms.length fx, .box gb ⟨intsL bl, 3, rest + 1⟩, .box g37 ⟨intsL al2, 3, rest + 1⟩, .box g62 ⟨intsL af2, 3, rest + 1⟩]) [0, 1, 2, 3] rfl (by rw [← hF1]; rfl)) ?_
      refine VC.exit ?_
      refine VC.region ?_
      refine VO.mv rfl rfl rfl rfl ?_
      refine VO.ma rfl rfl rfl rfl ?_
      refine VO.nil ?_
      refine VC.region ?_
      refine VO.val rfl rfl (OpV.add rfl rfl rfl (by unfold fits; omega)) ?_
      refine VO.mv rfl rfl rfl rfl ?_
      refine VO.nil ?_
      exact Exists.intro (⟨(g62, af2, k + 1), by show k + 1 ≤ _; omega, hF2⟩) (And.intro (Le.mk hB [0, 3] ⟨rfl, rfl, rfl, rfl, rfl, trivial⟩ rfl rfl (Nat.le_refl _)) (by first | omega | (show _ < _; omega) | (simp only []; omega)))
     ·have h4 := h4b
      try simp only [qqT, qqF, qqN, qqM, qqL, qqE] at h4
      refine VC.skip ?_
      refine VC.region ?_
      refine VO.mv rfl rfl rfl rfl ?_
      refine VO.val rfl rfl (OpV.sub rfl rfl rfl (by unfold fits; omega)) ?_
      refine VO.le _ (Le.recast (t := 65) (y := avI ((s - 1 : Nat) : Int)) rfl (fun w Z u h => by rw [show ((s - 1 : Nat) : Int) = (s : Int) - 1 by omega]; exact h)) ?_
      refine VO.mv rfl rfl rfl rfl ?_
      refine VO.val rfl rfl (OpV.band (a := s - 1) (b := rest) rfl rfl rfl (by omega) (by omega)) ?_
      refine VO.ma rfl rfl rfl rfl ?_
      refine VO.nil ?_
      have hdec : (s - 1) &&& rest < s := sub_dec (by omega)
      exact Exists.intro (⟨(af.set s (belS ms ns fx (k + 1) s), (s - 1) &&& rest), hF.next (by omega) rfl⟩) (And.intro (Le.mk hB [0, 1, 2, 3] ⟨rfl, rfl, rfl, rfl, rfl, rfl, rfl, rfl, trivial⟩ rfl rfl (Nat.le_refl _)) (by first | omega | (show _ < _; omega) | (simp only []; omega)))
    ·have h3 := h3b
     try simp only [qqT, qqF, qqN, qqM, qqL, qqE] at h3
     refine VC.skip ?_
     refine VC.region ?_
     refine VO.mv rfl rfl rfl rfl ?_
     refine VO.val rfl rfl (OpV.sub rfl rfl rfl (by unfold fits; omega)) ?_
     refine VO.le _ (Le.recast (t := 73) (y := avI ((c - 1 : Nat) : Int)) rfl (fun w Z u h => by rw [show ((c - 1 : Nat) : Int) = (c : Int) - 1 by omega]; exact h)) ?_
     refine VO.mv rfl rfl rfl rfl ?_
     refine VO.val rfl rfl (OpV.band (a := c - 1) (b := s) rfl rfl rfl (by omega) (by omega)) ?_
     refine VO.ma rfl rfl rfl rfl ?_
     refine VO.nil ?_
     have hdec : (c - 1) &&& s < c := sub_dec (by omega)
     exact Exists.intro (⟨(min v (mxBA ms ns fx k s c), (c - 1) &&& s), hV.next (mxBA_nn hMn k s c) (by omega)⟩) (And.intro (Le.mk hB [0, 1, 2, 3] ⟨rfl, rfl, rfl, rfl, rfl, rfl, rfl, rfl, rfl, trivial⟩ rfl rfl (Nat.le_refl _)) (by first | omega | (show _ < _; omega) | (simp only []; omega)))
   ·have h2 := h2b
    try simp only [qqT, qqF, qqN, qqM, qqL, qqE] at h2
    refine VC.skip ?_
    refine VC.region ?_
    refine VO.mv rfl rfl rfl rfl ?_
    refine VO.val rfl rfl (OpV.sub rfl rfl rfl (by unfold fits; omega)) ?_
    refine VO.le _ (Le.recast (t := 40) (y := avI ((cur - 1 : Nat) : Int)) rfl (fun w Z u h => by rw [show ((cur - 1 : Nat) : Int) = (cur : Int) - 1 by omega]; exact h)) ?_
    refine VO.mv rfl rfl rfl rfl ?_
    refine VO.val rfl rfl (OpV.band (a := cur - 1) (b := rest) rfl rfl rfl (by omega) (by omega)) ?_
    refine VO.ma rfl rfl rfl rfl ?_
    refine VO.nil ?_
    have hdec : (cur - 1) &&& rest < cur := sub_dec (by omega)
    exact Exists.intro (⟨(al.set cur (alnS ms ns fx k cur), (cur - 1) &&& rest), hG.next (by omega) rfl⟩) (And.intro (Le.mk hB [0, 1, 2] ⟨rfl, rfl, rfl, rfl, rfl, rfl, rfl, rfl, trivial⟩ rfl rfl (Nat.le_refl _)) (by first | omega | (show _ < _; omega) | (simp only []; omega)))
  ·have aH2 := aH2b
   try simp only [qqT, qqF, qqN, qqM, qqL, qqE] at aH2
   obtain rfl : k = ms.length := by omega
   have hlast := hS.at_ rest (SubN.refl rest)
   refine VC.exit ?_
   refine VC.sr ?_
   refine VO.mv rfl rfl rfl rfl ?_
   refine VO.mv rfl rfl rfl rfl ?_
   refine VO.val rfl rfl (OpV.indexAddr_o rfl Tryz.underlying22 Tryz.sizeOf3 rfl rfl rfl (by omega)) ?_
   refine VO.val rfl rfl (OpV.load_own (i := 1) rfl hB Tryz.isAgg3 rfl rfl (intsL_getV (by omega) hlast) (fun h => h)) ?_
   refine VO.ma rfl rfl rfl rfl ?_
   refine VO.nil ?_
   refine VC.le _ (Le.pickH [0] rfl rfl) ?_
   refine VC.ret ?_
   exact Exists.intro _ (And.intro (RetV.one Tryz.results173 (ResV.tmp rfl)) (⟨rfl, rfl⟩))
end Go.Proofs.YtaaokimiadfidaaGreatDoor
namespace Go.Proofs.YtaaokimiadfidaaGreatDoor
open Go.RowKit
set_option linter.unusedVariables false
set_option linter.unusedSimpArgs false
section
variable {ms : List Mach} {ns : List NeedS} {pl G : List Int} {B : Int} {q k : Nat}
theorem bal_no (hq : q < ns.length) (hB : bstV ms ns (ns.length - q) pl = B) (hlt : B < neverC) (hn : ∀ j, j < ms.length → bstV ms ns (ns.length - q - 1) (pl ++ [(j : Int)]) ≠ B) : False := by
 obtain ⟨d, hd⟩ : ∃ d, ns.length - q = d + 1 := ⟨ns.length - q - 1, by omega⟩
 rw [hd] at hB hn
 exact grd_some (by rw [hB]; exact hlt) fun j hj => by rw [hB]; exact hn j hj
theorem bal_step (hq : q < ns.length) (hk : k < ms.length) (hB : bstV ms ns (ns.length - q) pl = B) (hG : grd ms ns (ns.length - q) pl = G) (h5 : bstV ms ns (ns.length - q - 1) (pl ++ [(k : Int)]) = B) (hn : ∀ j, j < k → bstV ms ns (ns.length - q - 1) (pl ++ [(j : Int)]) ≠ B) : bstV ms ns (ns.length - (q + 1)) (pl ++ [(k : Int)]) = B ∧ grd ms ns (ns.length - (q + 1)) (pl ++ [(k : Int)]) = G := by
 obtain ⟨d, hd⟩ : ∃ d, ns.length - q = d + 1 := ⟨ns.length - q - 1, by omega⟩
 have e : ns.length - (q + 1) = d := by omega
 rw [hd] at hB hG h5 hn
 rw [e]
 refine ⟨h5, ?_⟩
 rw [← hG, grd_next hk (by rw [hB]; exact h5) fun j hj => by rw [hB]; exact hn j hj]
theorem bel_next (hM : MnOk ms ns) (hl : pl.length = q) (hq : q < ns.length) : belS ms ns (mskP (pl ++ [(k : Int)])) ms.length (rst ns.length (q + 1)) = bstV ms ns (ns.length - q - 1) (pl ++ [(k : Int)]) := by
 have := belS_bst hM (pl := pl ++ [(k : Int)]) (d := ns.length - q - 1) (by simp; omega)
 rw [List.length_append, hl] at this
 exact this
theorem bel_first (hM : MnOk ms ns) : belS ms ns (mskP []) ms.length (rst ns.length 0) = bstV ms ns ns.length [] := belS_bst hM (pl := []) (d := ns.length) (by simp)
theorem pow12 {n : Nat} (h : n ≤ 12) : 1 ≤ 2 ^ n ∧ 2 ^ n ≤ 4096 := ⟨Nat.one_le_two_pow, show 2 ^ n ≤ 2 ^ 12 from Nat.pow_le_pow_right (by decide) h⟩
theorem msk12 (h : pl.length ≤ 12) (k : Nat) : mskP pl k < 4096 := Nat.lt_of_lt_of_le (mskP_lt pl k) (pow12 h).2
theorem rst12 {n : Nat} (h : n ≤ 12) (i : Nat) : rst n i < 4096 := Nat.lt_of_lt_of_le (rst_lt n i) (pow12 h).2
theorem bal_1 (h : faultF ms ns ≠ 0) : balE ms ns = faultF ms ns ∧ balOk ms ns = false ∧ balL ms ns = [] ∧ balV ms ns = 0 := by
 have e : balE ms ns = faultF ms ns := by rw [balE, if_pos h]
 have e2 : balOk ms ns = false := by rw [balOk, e, decide_eq_false h]; rfl
 exact ⟨e, e2, by rw [balL, e2]; rfl, by rw [balV, e2]; rfl⟩
theorem bal_2 (h : faultF ms ns = 0) (h2 : 12 < ns.length) : balE ms ns = 2 ∧ balOk ms ns = false ∧ balL ms ns = [] ∧ balV ms ns = 0 := by
 have e : balE ms ns = 2 := by rw [balE, if_neg (by omega), if_pos h2]
 have e2 : balOk ms ns = false := by rw [balOk, e]; rfl
 exact ⟨e, e2, by rw [balL, e2]; rfl, by rw [balV, e2]; rfl⟩
theorem bal_3 (h : faultF ms ns = 0) (h2 : ns.length ≤ 12) (h3 : ¬ bstV ms ns ns.length [] < neverC) : balE ms ns = 0 ∧ balOk ms ns = false ∧ balL ms ns = [] ∧ balV ms ns = 0 := by
 have e : balE ms ns = 0 := by rw [balE, if_neg (by omega), if_neg (by omega)]
 have e2 : balOk ms ns = false := by rw [balOk, e, decide_eq_false h3]; rfl
 exact ⟨e, e2, by rw [balL, e2]; rfl, by rw [balV, e2]; rfl⟩
theorem bal_4 (h : faultF ms ns = 0) (h2 : ns.length ≤ 12) (h3 : bstV ms ns ns.length [] < neverC) : balE ms ns = 0 ∧ balOk ms ns = true ∧ balL ms ns = grd ms ns ns.length [] ∧ balV ms ns = bstV ms ns ns.length [] := by
 have e : balE ms ns = 0 := by rw [balE, if_neg (by omega), if_neg (by omega)]
 have e2 : balOk ms ns = true := by rw [balOk, e, decide_eq_true h3]; rfl
 exact ⟨e, e2, by rw [balL, e2]; rfl, by rw [balV, e2]; rfl⟩
end
theorem mskT_yes {pl : List Int} {k q n : Nat} (hl : pl.length = q) : (tabI n fun j => ((mskP pl j : Nat) : Int)).set k ((mskP pl k ||| 2 ^ q : Nat) : Int) = tabI n fun j => ((mskP (pl ++ [(k : Int)]) j : Nat) : Int) :=
 tabI_set' (by rw [mskP_snoc, if_pos rfl, hl]) fun j _ hne => by rw [mskP_snoc, if_neg hne]
theorem mskT_no {pl : List Int} {k q n : Nat} (hl : pl.length = q) : (tabI n fun j => ((mskP (pl ++ [(k : Int)]) j : Nat) : Int)).set k ((ndiff (mskP (pl ++ [(k : Int)]) k) (2 ^ q) : Nat) : Int) = tabI n fun j => ((mskP pl j : Nat) : Int) :=
 tabI_set' (by rw [mskP_snoc, if_pos rfl, ← hl, mskP_back]) fun j _ hne => by rw [mskP_snoc, if_neg hne]
set_option maxRecDepth 100000 in
set_option maxHeartbeats 16000000 in
theorem line_Balance {ms : List Mach} {ns : List NeedS} (hm : SmallM ms) (hn : SmallN ns) :
  Spec Tryz.prog 69 [avL ms, avL ns] (fun y => y = .tup [avInts (balL ms ns), avI (balV ms ns), avB (balOk ms ns), avI (balE ms ns)]) := by
 refine Spec.of_VC Tryz.func69 rfl Tryz.ntmps69 (Nle rfl) fun w A hB => ?_
 have hnew : True := trivial
 refine VC.sr ?_
 refine VO.ma rfl rfl rfl rfl ?_
 refine VO.ma rfl rfl rfl rfl ?_
 refine VO.ma rfl rfl rfl rfl ?_
 refine VO.ma rfl rfl rfl rfl ?_
 refine VO.nil ?_
 refine VC.seq ?_
 refine VC.sr ?_
 refine VO.mv rfl rfl rfl rfl ?_
 refine VO.mv rfl rfl rfl rfl ?_
 refine VO.op rfl (OpE.call rfl hB rfl Tryz.call172 rfl (SpecN.spec (line_fault hm.l hm.k hm.c hm.s hn.l hn.k)) ?_)
 rintro _ rfl
 refine VO.ma rfl rfl rfl rfl ?_
 refine VO.nil ?_
 refine VC.sr ?_
 refine VO.mv rfl rfl rfl rfl ?_
 refine VO.val rfl rfl (OpV.neq rfl rfl rfl) ?_
 refine VO.nil ?_
 refine VC.cond rfl (fun h0b => ?_) (fun h0b => ?_)
 ·have h0 := h0b
  try simp only [qqT, qqF, qqN, qqM, qqL, qqE] at h0
  refine VC.sr ?_
  refine VO.mv rfl rfl rfl rfl ?_
  refine VO.ma rfl rfl rfl rfl ?_
  refine VO.ma rfl rfl rfl rfl ?_
  refine VO.ma rfl rfl rfl rfl ?_
  refine VO.ma rfl rfl rfl rfl ?_
  refine VO.nil ?_
  refine VC.le _ (Le.recast (t := 4) (y := avInts []) rfl (fun w Z u h => by rw [h.eq_v]; exact .nil _ _)) ?_
  refine VC.ret ?_
  exact Exists.intro _ (And.intro (RetV.four Tryz.results69 (ResV.tmp rfl) (ResV.tmp rfl) (ResV.tmp rfl) (ResV.tmp rfl)) (by rw [(bal_1 h0).1, (bal_1 h0).2.1, (bal_1 h0).2.2.1, (bal_1 h0).2.2.2]))
 ·have h0 := h0b
  try simp only [qqT, qqF, qqN, qqM, qqL, qqE] at h0
  have hf0 : faultF ms ns = 0 := by omega
  obtain ⟨hmf, hnf⟩ := faultF_0 hf0
  have hM := MnOk.mk' hmf hnf
  have hlen := machF_len hmf
  refine VC.skip ?_
  refine VC.seq ?_
  refine VC.sr ?_
  refine VO.mv rfl rfl rfl rfl ?_
  refine VO.val rfl rfl (OpV.len_im rfl Tryz.underlying77 rfl) ?_
  refine VO.val rfl rfl (OpV.gtr rfl rfl rfl) ?_
  refine VO.nil ?_
  refine VC.cond rfl (fun h1b => ?_) (fun h1b => ?_)
  ·have h1 := h1b
   try simp only [qqT, qqF, qqN, qqM, qqL, qqE] at h1
   refine VC.sr ?_
   refine VO.ma rfl rfl rfl rfl ?_
   refine VO.ma rfl rfl rfl rfl ?_
   refine VO.ma rfl rfl rfl rfl ?_
   refine VO.ma rfl rfl rfl rfl ?_
   refine VO.nil ?_
   refine VC.le _ (Le.recast (t := 4) (y := avInts []) rfl (fun w Z u h => by rw [h.eq_v]; exact .nil _ _)) ?_
   refine VC.ret ?_
   exact Exists.intro _ (And.intro (RetV.four Tryz.results69 (ResV.tmp rfl) (ResV.tmp rfl) (ResV.tmp rfl) (ResV.tmp rfl)) (by rw [(bal_2 hf0 (by omega)).1, (bal_2 hf0 (by omega)).2.1, (bal_2 hf0 (by omega)).2.2.1, (bal_2 hf0 (by omega)).2.2.2]))
  ·have h1 := h1b
   try simp only [qqT, qqF, qqN, qqM, qqL, qqE] at h1
   have h12 : ns.length ≤ 12 := by omega
   have hpw := pow12 h12
   refine VC.skip ?_
   refine VC.sr ?_
   refine VO.mv rfl rfl rfl rfl ?_
   refine VO.mv rfl rfl rfl rfl ?_
   refine VO.mv rfl rfl rfl rfl ?_
   refine VO.val rfl rfl (OpV.len_im rfl Tryz.underlying102 rfl) ?_
   refine VO.op rfl (OpE.make rfl hB rfl Tryz.underlying22 (infoOf Tryz.t3 1 (by kernel_rfl) rfl rfl) (by decide) rfl rfl (n := ms.length) rfl rfl (by omega) (made_ints _) ?_)
   intro g28
   rw [intsL_len, List.length_replicate]
   refine VO.val rfl rfl (OpV.build (pls := #[(0, 1), (1, 1), (2, 1)]) rfl Tryz.zeroValue221 Tryz.underlying221 (fun w => by kernel_rfl) rfl rfl) ?_
   refine VO.op rfl (OpE.box rfl hB rfl rfl rfl ?_)
   intro g30
   refine VO.ma rfl rfl rfl rfl ?_
   refine VO.nil ?_
   refine VC.seq ?_
   refine VC.le _ (Le.freezeAt (t := 9) (i := 1) (m := 3) (f := balC ms ns (.slice (some ⟨g28, 0, none⟩) ms.length ms.length)) rfl rfl (Nle rfl) (fun w Z u h => h.at_congr (g := balC ms ns (.slice (some ⟨g28, 0, none⟩) ms.length ms.length)) (fun j hj => by rcases j with _ | _ | _ | j <;> first | rfl | omega)) hnew hB) ?_
   refine VC.le _ (Le.pickH (hp := [fixB g28 ms.length (mskP [])]) [0] rfl (by rw [tabI_rep]; rfl)) ?_
   refine VC.region ?_
   refine VO.mv rfl rfl rfl rfl ?_
   refine VO.val rfl rfl (OpV.len_im rfl Tryz.underlying77 rfl) ?_
   refine VO.val rfl rfl (OpV.bshl1 rfl rfl rfl (by omega)) ?_
   refine VO.val rfl rfl (OpV.sub rfl rfl rfl (by unfold fits; omega)) ?_
   refine VO.le _ (Le.recast (t := 34) (y := avI ((rst ns.length 0 : Nat) : Int)) rfl (fun w Z u h => by rw [rst_zero, show ((2 ^ ns.length - 1 : Nat) : Int) = ((2 ^ ns.length : Nat) : Int) - 1 by omega]; exact h)) ?_
   refine VO.ma rfl rfl rfl rfl ?_
   refine VO.nil ?_
   refine VC.sr ?_
   refine VO.mv rfl rfl rfl rfl ?_
   refine VO.mv rfl rfl rfl rfl ?_
   refine VO.op rfl (OpE.callH0 rfl hB rfl Tryz.call173 rfl rfl (bal_longest hmf hnf h12 (rst12 h12 0) (msk12 (by simp))) (List.Perm.refl _) (fun _ _ => trivial) ?_)
   rintro _ _ ⟨rfl, rfl⟩
   obtain ⟨B, hBv⟩ : ∃ B, bstV ms ns ns.length [] = B := ⟨_, rfl⟩
   refine VO.le _ (Le.recast (t := 37) (y := avI B) rfl (fun w Z u h => by rw [← hBv, ← bel_first hM]; exact h)) ?_
   have hBi := bstV_in hM ns.length []
   rw [hBv] at hBi
   refine VO.ma rfl rfl rfl rfl ?_
   refine VO.nil ?_
   refine VC.seq ?_
   refine VC.sr ?_
   refine VO.mv rfl rfl rfl rfl ?_
   refine VO.val rfl rfl (OpV.eql rfl rfl rfl) ?_
   refine VO.nil ?_
   refine VC.cond rfl (fun h2b => ?_) (fun h2b => ?_)
   ·have h2 := h2b
    try simp only [qqT, qqF, qqN, qqM, qqL, qqE] at h2
    have h3 : ¬ bstV ms ns ns.length [] < neverC := by rw [hBv]; simp only [neverC]; omega
    refine VC.sr ?_
    refine VO.ma rfl rfl rfl rfl ?_
    refine VO.ma rfl rfl rfl rfl ?_
    refine VO.ma rfl rfl rfl rfl ?_
    refine VO.ma rfl rfl rfl rfl ?_
    refine VO.nil ?_
    refine VC.le _ (Le.recast (t := 4) (y := avInts []) rfl (fun w Z u h => by rw [h.eq_v]; exact .nil _ _)) ?_
    refine VC.ret ?_
    exact Exists.intro _ (And.intro (RetV.four Tryz.results69 (ResV.tmp rfl) (ResV.tmp rfl) (ResV.tmp rfl) (ResV.tmp rfl)) (by rw [(bal_3 hf0 h12 h3).1, (bal_3 hf0 h12 h3).2.1, (bal_3 hf0 h12 h3).2.2.1, (bal_3 hf0 h12 h3).2.2.2]))
   ·have h2 := h2b
    try simp only [qqT, qqF, qqN, qqM, qqL, qqE] at h2
    have hlt : B < neverC := by simp only [neverC] at hBi ⊢; omega
    refine VC.skip ?_
    refine VC.sr ?_
    refine VO.ma rfl rfl rfl rfl ?_
    refine VO.nil ?_
    refine VC.seq ?_
    refine VC.sr ?_
    refine VO.mv rfl rfl rfl rfl ?_
    refine VO.val rfl rfl (OpV.len_im rfl Tryz.underlying77 rfl) ?_
    refine VO.mv rfl rfl rfl rfl ?_
    refine VO.nil ?_
    refine VC.block ?_
    refine VC.le _ (Le.nilRow 1 3) ?_
    refine VC.loopK [(0, _), (9, _), (11, _), (41, _)] ⟨rfl, rfl, rfl, rfl, trivial⟩ ({z : Value × List Int × Nat // z.2.2 ≤ ns.length ∧ z.2.1.length = z.2.2 ∧ bstV ms ns (ns.length - z.2.2) z.2.1 = B ∧ grd ms ns (ns.length - z.2.2) z.2.1 = grd ms ns ns.length []}) (fun (iZ : {z : Value × List Int × Nat // z.2.2 ≤ ns.length ∧ z.2.1.length = z.2.2 ∧ bstV ms ns (ns.length - z.2.2) z.2.1 = B ∧ grd ms ns (ns.length - z.2.2) z.2.1 = grd ms ns ns.length []}) => match iZ with | ⟨⟨u, pl, q⟩, hq, hl, hpb, hpg⟩ => [(10, avI ((rst ns.length q : Nat) : Int)), (12, .v u), (42, avI (q : Int))]) (fun (iZ : {z : Value × List Int × Nat // z.2.2 ≤ ns.length ∧ z.2.1.length = z.2.2 ∧ bstV ms ns (ns.length - z.2.2) z.2.1 = B ∧ grd ms ns (ns.length - z.2.2) z.2.1 = grd ms ns ns.length []}) => match iZ with | ⟨⟨u, pl, q⟩, hq, hl, hpb, hpg⟩ => [fixB g28 ms.length (mskP pl), .row u pl.length 1 (intsL pl) 3]) (fun (iZ : {z : Value × List Int × Nat // z.2.2 ≤ ns.length ∧ z.2.1.length = z.2.2 ∧ bstV ms ns (ns.length - z.2.2) z.2.1 = B ∧ grd ms ns (ns.length - z.2.2) z.2.1 = grd ms ns ns.length []}) => match iZ with | ⟨⟨u, pl, q⟩, hq, hl, hpb, hpg⟩ => 0) (fun (iZ : {z : Value × List Int × Nat // z.2.2 ≤ ns.length ∧ z.2.1.length = z.2.2 ∧ bstV ms ns (ns.length - z.2.2) z.2.1 = B ∧ grd ms ns (ns.length - z.2.2) z.2.1 = grd ms ns ns.length []}) => match iZ with | ⟨⟨u, pl, q⟩, hq, hl, hpb, hpg⟩ => ns.length - q) ⟨(.slice none 0 0, [], 0), Nat.zero_le _, rfl, hBv, rfl⟩ (Le.mk hB [0, 1] ⟨rfl, rfl, rfl, rfl, rfl, rfl, rfl, trivial⟩ rfl rfl (Nat.le_refl _)) ?_
    rintro ⟨⟨u, pl, q⟩, hq, hl, hpb, hpg⟩
    show VC _ _ _ _ ⟨[(10, avI ((rst ns.length q : Nat) : Int)), (12, .v u), (42, avI (q : Int))] ++ [(0, _), (9, _), (11, _), (41, _)], [fixB g28 ms.length (mskP pl), .row u pl.length 1 (intsL pl) 3], 0⟩
    simp only at hq hl hpb hpg
    refine VC.sr ?_
    refine VO.val rfl rfl (OpV.lss rfl rfl rfl) ?_
    refine VO.nil ?_
    refine VC.seq ?_
    refine VC.cond rfl (fun aH1b => ?_) (fun aH1b => ?_)
    ·have aH1 := aH1b
     try simp only [qqT, qqF, qqN, qqM, qqL, qqE] at aH1
     refine VC.skip ?_
     refine VC.seq ?_
     refine VC.block ?_
     refine VC.sr ?_
     refine VO.mv rfl rfl rfl rfl ?_
     refine VO.ma rfl rfl rfl rfl ?_
     refine VO.nil ?_
     refine VC.sr ?_
     refine VO.mv rfl rfl rfl rfl ?_
     refine VO.mv rfl rfl rfl rfl ?_
     refine VO.val rfl rfl (OpV.bshl1 rfl rfl rfl (by omega)) ?_
     refine VO.val rfl rfl (OpV.bdiff (a := rst ns.length q) (b := 2 ^ q) rfl rfl rfl (by have := rst12 h12 q; omega) (by have := (pow12 (n := q) (by omega)).2; omega)) ?_
     refine VO.le _ (Le.recast (t := 48) (y := avI ((rst ns.length (q + 1) : Nat) : Int)) rfl (fun w Z u h => by rw [← rst_succ]; exact h)) ?_
     refine VO.ma rfl rfl rfl rfl ?_
     refine VO.nil ?_
     refine VC.sr ?_
     refine VO.mv rfl rfl rfl rfl ?_
     refine VO.val rfl rfl (OpV.len_im rfl Tryz.underlying102 rfl) ?_
     refine VO.mv rfl rfl rfl rfl ?_
     refine VO.nil ?_
     refine VC.block ?_
     have hq1 : q < ns.length := by omega
     have hq2 := (pow12 (n := q) (by omega)).2
     refine VC.loopK [(0, _), (9, _), (10, _), (11, _), (13, _), (41, _), (42, _), (50, _)] ⟨rfl, rfl, rfl, rfl, rfl, rfl, rfl, rfl, trivial⟩ ({k : Nat // k ≤ ms.length ∧ ∀ j, j < k → bstV ms ns (ns.length - q - 1) (pl ++ [(j : Int)]) ≠ B}) (fun (iZ : {k : Nat // k ≤ ms.length ∧ ∀ j, j < k → bstV ms ns (ns.length - q - 1) (pl ++ [(j : Int)]) ≠ B}) => match iZ with | ⟨k, hk, hns⟩ => [(12, .v u), (51, avI (k : Int))]) (fun (iZ : {k : Nat // k ≤ ms.length ∧ ∀ j, j < k → bstV ms ns (ns.length - q - 1) (pl ++ [(j : Int)]) ≠ B}) => match iZ with | ⟨k, hk, hns⟩ => [fixB g28 ms.length (mskP pl), .row u pl.length 1 (intsL pl) 3]) (fun (iZ : {k : Nat // k ≤ ms.length ∧ ∀ j, j < k → bstV ms ns (ns.length - q - 1) (pl ++ [(j : Int)]) ≠ B}) => match iZ with | ⟨k, hk, hns⟩ => 0) (fun (iZ : {k : Nat // k ≤ ms.length ∧ ∀ j, j < k → bstV ms ns (ns.length - q - 1) (pl ++ [(j : Int)]) ≠ B}) => match iZ with | ⟨k, hk, hns⟩ => ms.length - k) ⟨0, Nat.zero_le _, fun j hj => absurd hj (Nat.not_lt_zero j)⟩ (Le.mk hB [0, 1] ⟨rfl, rfl, rfl, rfl, rfl, rfl, rfl, rfl, rfl, rfl, trivial⟩ rfl rfl (Nat.le_refl _)) ?_
     rintro ⟨k, hk, hns⟩
     show VC _ _ _ _ ⟨[(12, .v u), (51, avI (k : Int))] ++ [(0, _), (9, _), (10, _), (11, _), (13, _), (41, _), (42, _), (50, _)], [fixB g28 ms.length (mskP pl), .row u pl.length 1 (intsL pl) 3], 0⟩
     refine VC.sr ?_
     refine VO.val rfl rfl (OpV.lss rfl rfl rfl) ?_
     refine VO.nil ?_
     refine VC.seq ?_
     refine VC.cond rfl (fun h4b => ?_) (fun h4b => ?_)
     ·have h4 := h4b
      try simp only [qqT, qqF, qqN, qqM, qqL, qqE] at h4
      refine VC.skip ?_
      refine VC.seq ?_
      refine VC.block ?_
      refine VC.sr ?_
      refine VO.mv rfl rfl rfl rfl ?_
      refine VO.ma rfl rfl rfl rfl ?_
      refine VO.nil ?_
      refine VC.seq ?_
      refine VC.draw (fun j b => j = 11 ∧ b = g28) hB (by kernel_rfl) ?_
      refine VA.take (i := 0) rfl (by kernel_rfl) (by kernel_rfl) (by kernel_rfl) rfl rfl (OpV.move (.inl rfl) rfl) ?_
      refine VA.take (i := 1) rfl (by kernel_rfl) (by kernel_rfl) (by kernel_rfl) rfl rfl (OpV.nilCheck_at rfl rfl) ?_
      refine VA.take (i := 2) rfl (by kernel_rfl) (by kernel_rfl) (by kernel_rfl) rfl rfl (OpV.fieldAddr_atO 2 rfl Tryz.underlying221 rfl rfl Tryz.sizeOf22 rfl rfl) ?_
      refine VA.take (i := 3) rfl (by kernel_rfl) (by kernel_rfl) (by kernel_rfl) rfl rfl (OpV.load_at rfl hB (by first | exact OutW.wi1 (k := 0) rfl rfl | exact OutW.wi1 (k := 1) rfl rfl) Tryz.isAgg22 rfl rfl) ?_
      refine VA.take (i := 4) rfl (by kernel_rfl) (by kernel_rfl) (by kernel_rfl) rfl rfl (OpV.move (.inl rfl) rfl) ?_
      refine VA.take (i := 5) rfl (by kernel_rfl) (by kernel_rfl) (by kernel_rfl) rfl rfl (OpV.indexAddr_o rfl Tryz.underlying22 Tryz.sizeOf3 rfl rfl rfl (by omega)) ?_
      refine VA.takeT [6, 9, 11] (i := 6) (by kernel_rfl) (by kernel_rfl) rfl (by kernel_rfl) (by kernel_rfl) (by kernel_rfl) rfl rfl (OpV.load_own (i := 0) rfl hB Tryz.isAgg3 rfl rfl (intsT_get (by omega)) (fun ⟨j, h1, h2, _⟩ => by subst h2; cases h1)) ?_
      refine VA.take (i := 7) rfl (by kernel_rfl) (by kernel_rfl) (by kernel_rfl) rfl rfl (OpV.move (.inl rfl) rfl) ?_
      refine VA.take (i := 8) rfl (by kernel_rfl) (by kernel_rfl) (by kernel_rfl) rfl rfl (OpV.bshl1 rfl rfl rfl (by omega)) ?_
      refine VA.take (i := 9) rfl (by kernel_rfl) (by kernel_rfl) (by kernel_rfl) rfl rfl (OpV.bor (a := mskP pl k) (b := 2 ^ q) rfl rfl rfl (by have := msk12 (pl := pl) (by omega) k; omega) (by omega)) ?_
      refine VA.take (i := 10) rfl (by kernel_rfl) (by kernel_rfl) (by kernel_rfl) rfl rfl (OpV.indexAddr_o rfl Tryz.underlying22 Tryz.sizeOf3 rfl rfl rfl (by omega)) ?_
      refine VA.all (rs := [11]) (by kernel_rfl) (by decide) ?_
      refine ⟨⟨_, rfl, .inl rfl, ?_⟩, trivial⟩
      refine OpE.store1 (i := 0) rfl hB rfl Tryz.sizeOf3 rfl rfl rfl rfl rfl rfl (by rw [intsL_len, tabI_len]; omega) ((intsL_set _ _ _).trans (congrArg intsL (mskT_yes hl))) (by first | exact ⟨rfl, rfl⟩ | exact .inl ⟨rfl, rfl⟩ | exact .inr ⟨rfl, rfl⟩ | exact ⟨rfl, trivial⟩ | exact .inl ⟨rfl, trivial⟩ | exact .inr ⟨rfl, trivial⟩ | exact ⟨by decide, rfl⟩) ?_
      refine VA.done (by kernel_rfl) ?_
      refine VC.seq ?_
      refine VC.sr ?_
      refine VO.mv rfl rfl rfl rfl ?_
      refine VO.mv rfl rfl rfl rfl ?_
      refine VO.op rfl (OpE.callH (rest := [_]) rfl hB rfl Tryz.call173 rfl rfl (bal_longest hmf hnf h12 (rst12 h12 (q + 1)) (msk12 (pl := pl ++ [(k : Int)]) (by simp; omega))) (List.Perm.refl _) (fun _ _ => trivial) ?_)
      rintro _ _ ⟨rfl, rfl⟩
      refine VO.le _ (Le.recast (t := 67) (y := avI (bstV ms ns (ns.length - q - 1) (pl ++ [(k : Int)]))) rfl (fun w Z u h => by rw [← bel_next hM hl hq1]; exact h)) ?_
      refine VO.mv rfl rfl rfl rfl ?_
      refine VO.val rfl rfl (OpV.eql rfl rfl rfl) ?_
      refine VO.nil ?_
      refine VC.cond rfl (fun h5b => ?_) (fun h5b => ?_)
      ·have h5 := h5b
       try simp only [qqT, qqF, qqN, qqM, qqL, qqE] at h5
       refine VC.sr ?_
       refine VO.mv rfl rfl rfl rfl ?_
       refine VO.mv rfl rfl rfl rfl ?_
       refine VO.op rfl (OpE.buildSlice (zc := #[.int .i64 0]) rfl hB rfl Tryz.underlying22 Tryz.sizeOf3 Tryz.zeroValue3 (by decide) (by decide) (by kernel_rfl) rfl rfl ?_)
       refine VO.op rfl (OpE.append1 (i := 1) rfl hB rfl Tryz.underlying22 (infoOf Tryz.t3 1 (by kernel_rfl) rfl rfl) rfl (by decide) (by decide) rfl rfl rfl rfl (intsL_snoc _ _) (by omega) (fun _ _ => trivial) ?_)
       intro u73
       refine VO.ma rfl rfl rfl rfl ?_
       refine VO.nil ?_
       refine VC.exit ?_
       refine VC.region ?_
       refine VO.val rfl rfl (OpV.add rfl rfl rfl (by unfold fits; omega)) ?_
       refine VO.mv rfl rfl rfl rfl ?_
       refine VO.nil ?_
       exact Exists.intro (⟨(u73, pl ++ [(k : Int)], q + 1), by show q + 1 ≤ _; omega, by show (pl ++ [_]).length = q + 1; simp [hl], (bal_step (by omega) (by omega) hpb hpg (by simpa using h5) hns).1, (bal_step (by omega) (by omega) hpb hpg (by simpa using h5) hns).2⟩) (And.intro (Le.mk hB [0, 1] ⟨rfl, rfl, rfl, rfl, rfl, rfl, rfl, trivial⟩ rfl (by dsimp only; rw [List.length_append]; rfl) (Nat.le_refl _)) (by first | omega | (show _ < _; omega) | (simp only []; omega)))
      ·have h5 := h5b
       try simp only [qqT, qqF, qqN, qqM, qqL, qqE] at h5
       refine VC.skip ?_
       refine VC.draw (fun j b => j = 11 ∧ b = g28) hB (by kernel_rfl) ?_
       refine VA.take (i := 0) rfl (by kernel_rfl) (by kernel_rfl) (by kernel_rfl) rfl rfl (OpV.move (.inl rfl) rfl) ?_
       refine VA.take (i := 1) rfl (by kernel_rfl) (by kernel_rfl) (by kernel_rfl) rfl rfl (OpV.nilCheck_at rfl rfl) ?_
       refine VA.take (i := 2) rfl (by kernel_rfl) (by kernel_rfl) (by kernel_rfl) rfl rfl (OpV.fieldAddr_atO 2 rfl Tryz.underlying221 rfl rfl Tryz.sizeOf22 rfl rfl) ?_
       refine VA.take (i := 3) rfl (by kernel_rfl) (by kernel_rfl) (by kernel_rfl) rfl rfl (OpV.load_at rfl hB (by first | exact OutW.wi1 (k := 0) rfl rfl | exact OutW.wi1 (k := 1) rfl rfl) Tryz.isAgg22 rfl rfl) ?_
       refine VA.take (i := 4) rfl (by kernel_rfl) (by kernel_rfl) (by kernel_rfl) rfl rfl (OpV.move (.inl rfl) rfl) ?_
       refine VA.take (i := 5) rfl (by kernel_rfl) (by kernel_rfl) (by kernel_rfl) rfl rfl (OpV.indexAddr_o rfl Tryz.underlying22 Tryz.sizeOf3 rfl rfl rfl (by omega)) ?_
       refine VA.takeT [6, 9, 11] (i := 6) (by kernel_rfl) (by kernel_rfl) rfl (by kernel_rfl) (by kernel_rfl) (by kernel_rfl) rfl rfl (OpV.load_own (i := 0) rfl hB Tryz.isAgg3 rfl rfl (intsT_get (by omega)) (fun ⟨j, h1, h2, _⟩ => by subst h2; cases h1)) ?_
       refine VA.take (i := 7) rfl (by kernel_rfl) (by kernel_rfl) (by kernel_rfl) rfl rfl (OpV.move (.inl rfl) rfl) ?_
       refine VA.take (i := 8) rfl (by kernel_rfl) (by kernel_rfl) (by kernel_rfl) rfl rfl (OpV.bshl1 rfl rfl rfl (by omega)) ?_
       refine VA.take (i := 9) rfl (by kernel_rfl) (by kernel_rfl) (by kernel_rfl) rfl rfl (OpV.bdiff (a := mskP (pl ++ [(k : Int)]) k) (b := 2 ^ q) rfl rfl rfl (by have := msk12 (pl := pl ++ [(k : Int)]) (by simp; omega) k; omega) (by omega)) ?_
       refine VA.take (i := 10) rfl (by kernel_rfl) (by kernel_rfl) (by kernel_rfl) rfl rfl (OpV.indexAddr_o rfl Tryz.underlying22 Tryz.sizeOf3 rfl rfl rfl (by omega)) ?_
       refine VA.all (rs := [11]) (by kernel_rfl) (by decide) ?_
       refine ⟨⟨_, rfl, .inl rfl, ?_⟩, trivial⟩
       refine OpE.store1 (i := 0) rfl hB rfl Tryz.sizeOf3 rfl rfl rfl rfl rfl rfl (by rw [intsL_len, tabI_len]; omega) ((intsL_set _ _ _).trans (congrArg intsL (mskT_no hl))) (by first | exact ⟨rfl, rfl⟩ | exact .inl ⟨rfl, rfl⟩ | exact .inr ⟨rfl, rfl⟩ | exact ⟨rfl, trivial⟩ | exact .inl ⟨rfl, trivial⟩ | exact .inr ⟨rfl, trivial⟩ | exact ⟨by decide, rfl⟩) ?_
       refine VA.done (by kernel_rfl) ?_
       refine VC.region ?_
       refine VO.val rfl rfl (OpV.add rfl rfl rfl (by unfold fits; omega)) ?_
       refine VO.mv rfl rfl rfl rfl ?_
       refine VO.nil ?_
       exact Exists.intro (⟨k + 1, by omega, lt_succ_cases hns (by simpa using h5)⟩) (And.intro (Le.mk hB [0, 1] ⟨rfl, rfl, rfl, rfl, rfl, rfl, rfl, rfl, rfl, rfl, trivial⟩ rfl rfl (Nat.le_refl _)) (by first | omega | (show _ < _; omega) | (simp only []; omega)))
     ·have h4 := h4b
      try simp only [qqT, qqF, qqN, qqM, qqL, qqE] at h4
      exact VC.absurd (bal_no hq1 hpb hlt (fun j hj => hns j (by omega)))
    ·have aH1 := aH1b
     try simp only [qqT, qqF, qqN, qqM, qqL, qqE] at aH1
     refine VC.exit ?_
     refine VC.sr ?_
     refine VO.mv rfl rfl rfl rfl ?_
     refine VO.mv rfl rfl rfl rfl ?_
     refine VO.ma rfl rfl rfl rfl ?_
     refine VO.ma rfl rfl rfl rfl ?_
     refine VO.ma rfl rfl rfl rfl ?_
     refine VO.ma rfl rfl rfl rfl ?_
     refine VO.nil ?_
     obtain rfl : q = ns.length := by omega
     refine VC.le _ (Le.rowI (t := 4) (i := 1) (xs := pl) hB hnew rfl rfl rfl) ?_
     rw [Nat.sub_self, grd] at hpg
     have h3 : bstV ms ns ns.length [] < neverC := by rw [hBv]; exact hlt
     refine VC.ret ?_
     exact Exists.intro _ (And.intro (RetV.four Tryz.results69 (ResV.tmp rfl) (ResV.tmp rfl) (ResV.tmp rfl) (ResV.tmp rfl)) (by rw [(bal_4 hf0 h12 h3).1, (bal_4 hf0 h12 h3).2.1, (bal_4 hf0 h12 h3).2.2.1, (bal_4 hf0 h12 h3).2.2.2, hBv, hpg]))
end Go.Proofs.YtaaokimiadfidaaGreatDoor
namespace Go.Proofs.YtaaokimiadfidaaGreatDoor
open Go.RowKit
set_option linter.unusedVariables false
set_option linter.unusedSimpArgs false

theorem tab_strs (xs : List ByteArray) : tab (xs.length * 1) (fun j => avS (xs.getD j ByteArray.empty)) = strsL xs := by
 apply List.ext_getElem (by rw [tab_len, strsL_len, Nat.mul_one])
 intro i h1 h2
 rw [tab_get]
 rw [strsL_len] at h2
 simp [strsL, h2]
set_option maxRecDepth 100000 in
theorem slices_CloneS_R {xs : List ByteArray} (hl : xs.length ≤ 1000000000) :
  SpecR Tryz.prog 138 [avStrs xs] xs.length 1 (strsL xs) 9 := by
 refine SpecR.of_VC Tryz.func138 rfl Tryz.ntmps138 (Nle rfl) (by first | exact flat_ints _ | exact flat_strs _ | exact flat_bools _) fun w A hB => ?_
 have hnew : True := trivial
 refine VC.sr ?_
 refine VO.ma rfl rfl rfl rfl ?_
 refine VO.nil ?_
 refine VC.seq ?_
 refine VC.sr ?_
 refine VO.mv rfl rfl rfl rfl ?_
 refine VO.op rfl (OpE.eqNil rfl rfl Tryz.underlying67 rfl ?_)
 intro b4 hb4
 refine VO.nil ?_
 refine VC.cond rfl (fun h0b => ?_) (fun h0b => ?_)
 ·have h0 := h0b
  try simp only [qqT, qqF, qqN, qqM, qqL, qqE] at h0
  refine VC.sr ?_
  refine VO.ma rfl rfl rfl rfl ?_
  refine VO.nil ?_
  obtain rfl : xs = [] := List.eq_nil_of_length_eq_zero (hb4 h0)
  refine VC.le _ (Le.nilRow 1 9) ?_
  refine VC.ret ?_
  exact Exists.intro _ (And.intro (RetV.one Tryz.results138 (ResV.tmp rfl)) (⟨_, rfl, List.Mem.head _⟩))
 ·have h0 := h0b
  try simp only [qqT, qqF, qqN, qqM, qqL, qqE] at h0
  refine VC.skip ?_
  refine VC.sr ?_
  refine VO.op rfl (OpE.buildSlice0 rfl hB rfl Tryz.underlying67 Tryz.sizeOf9 ?_)
  intro g5
  refine VO.mv rfl rfl rfl rfl ?_
  refine VO.op rfl (OpE.appendP (i := 0) rfl hB rfl Tryz.underlying67 (infoOf Tryz.t9 1 (by kernel_rfl) rfl rfl) rfl (by decide) (by decide) rfl rfl (.im rfl) (fun _ _ => rfl) (by omega) (tab_strs xs) (fun _ _ => trivial) ?_)
  intro u7
  refine VO.ma rfl rfl rfl rfl ?_
  refine VO.nil ?_
  rw [Nat.zero_add]
  refine VC.ret ?_
  exact Exists.intro _ (And.intro (RetV.one Tryz.results138 (ResV.tmp rfl)) (⟨_, rfl, List.Mem.head _⟩))
end Go.Proofs.YtaaokimiadfidaaGreatDoor
namespace Go.Proofs.YtaaokimiadfidaaGreatDoor
open Go.RowKit
set_option linter.unusedVariables false
set_option linter.unusedSimpArgs false

def keys5 : List ByteArray := [⟨#[97]⟩, ⟨#[98]⟩, ⟨#[99]⟩, ⟨#[100]⟩, ⟨#[101]⟩]
theorem keys5_size (q : Nat) : (keys5.getD q ByteArray.empty).size ≤ 1000 := by
 match q with
 | 0 => decide
 | 1 => decide
 | 2 => decide
 | 3 => decide
 | 4 => decide
 | q + 5 => simp [keys5]
def NOk (ns : List NeedS) : Prop := ns.length ≤ 10 ∧ ∀ x ∈ ns, x.key.size ≤ 1000
theorem NOk.small {ns : List NeedS} (h : NOk ns) : SmallN ns := ⟨by have := h.1; omega, fun i => by
 rw [List.getD_eq_getElem?_getD]
 cases hi : ns[i]? with
 | none => decide
 | some x => have := h.2 x (List.mem_of_getElem? hi); simp; omega⟩
theorem NOk.key {ns : List NeedS} (h : NOk ns) (i : Nat) : (ns.getD i default).key.size ≤ 1000 := by
 rw [List.getD_eq_getElem?_getD]
 cases hi : ns[i]? with
 | none => decide
 | some x => have := h.2 x (List.mem_of_getElem? hi); simpa using this
theorem NOk.set {ns : List NeedS} (h : NOk ns) (q : Nat) {x : NeedS} (hx : x.key.size ≤ 1000) : NOk (ns.set q x) :=
 ⟨by rw [List.length_set]; exact h.1, fun y hy => by rcases List.mem_or_eq_of_mem_set hy with h' | rfl; exact h.2 y h'; exact hx⟩
theorem getD_set_self {α : Type} {xs : List α} {q : Nat} {x d : α} (h : q < xs.length) : (xs.set q x).getD q d = x := by simp [h]
set_option maxRecDepth 100000 in
theorem needList_T {p : Nat} {L : List Int}  :
    SpecT Tryz.prog (TT p L) (fun b => b = p) 67 [sp p] 20 (fun y => ∃ ns, (SmallN ns ∧ ns.length ≤ 10) ∧ y = avL ns) := by
  refine SpecT.of_VC Tryz.func67 rfl Tryz.ntmps67 (Nle rfl) (low := (fun b => b ≤ p)) (fun w A k h => h.ok) fun w A k hk hB => ?_
  have hnew : True := trivial
  refine VC.sr ?_
  refine VO.ma rfl rfl rfl rfl ?_
  refine VO.nil ?_
  refine VC.sr ?_
  refine VO.ma rfl rfl rfl rfl ?_
  refine VO.nil ?_
  refine VC.seq ?_
  refine VC.sr ?_
  refine VO.op rfl (OpE.buildSlice (zc := #[.string ⟨#[]⟩, .string ⟨#[]⟩, .string ⟨#[]⟩, .string ⟨#[]⟩, .string ⟨#[]⟩]) rfl hB rfl Tryz.underlying67 Tryz.sizeOf9 Tryz.zeroValue9 (by decide) (by decide) (by kernel_rfl) rfl rfl ?_)
  refine VO.le _ (Le.recast (t := 7) (y := avStrs keys5) rfl (fun w Z u h => Rep.strs (xs := keys5) rfl h)) ?_
  refine VO.val rfl rfl (OpV.len_im rfl Tryz.underlying67 rfl) ?_
  refine VO.mv rfl rfl rfl rfl ?_
  refine VO.nil ?_
  refine VC.block ?_
  refine VC.le _ (Le.nilRow 2 96) ?_
  refine VC.loopK [] trivial ({p : Value × List NeedS × Nat // p.2.2 ≤ 5 ∧ p.2.1.length ≤ p.2.2 ∧ ∀ x ∈ p.2.1, x.key.size ≤ 1000}) (fun (iZ : {p : Value × List NeedS × Nat // p.2.2 ≤ 5 ∧ p.2.1.length ≤ p.2.2 ∧ ∀ x ∈ p.2.1, x.key.size ≤ 1000}) => match iZ with | ⟨⟨u, ns, q⟩, hq, hl, hk⟩ => [(0, sp p), (3, .v u), (7, avStrs keys5), (8, avI 5), (9, avI (q : Int))]) (fun (iZ : {p : Value × List NeedS × Nat // p.2.2 ≤ 5 ∧ p.2.1.length ≤ p.2.2 ∧ ∀ x ∈ p.2.1, x.key.size ≤ 1000}) => match iZ with | ⟨⟨u, ns, q⟩, hq, hl, hk⟩ => [.row u ns.length 2 (rowL ns) 96]) (fun (iZ : {p : Value × List NeedS × Nat // p.2.2 ≤ 5 ∧ p.2.1.length ≤ p.2.2 ∧ ∀ x ∈ p.2.1, x.key.size ≤ 1000}) => match iZ with | ⟨⟨u, ns, q⟩, hq, hl, hk⟩ => k + 2 * q) (fun (iZ : {p : Value × List NeedS × Nat // p.2.2 ≤ 5 ∧ p.2.1.length ≤ p.2.2 ∧ ∀ x ∈ p.2.1, x.key.size ≤ 1000}) => match iZ with | ⟨⟨u, ns, q⟩, hq, hl, hk⟩ => 5 - q) ⟨(.slice none 0 0, [], 0), by decide, by decide, fun x h => by simp at h⟩ (Le.mk hB [0] ⟨rfl, rfl, rfl, rfl, rfl, trivial⟩ rfl rfl (show k ≤ k + 2 * 0 by omega)) ?_
  rintro ⟨⟨u, ns, q⟩, hq, hl, hk⟩
  show VC _ _ _ _ ⟨[(0, sp p), (3, .v u), (7, avStrs keys5), (8, avI 5), (9, avI (q : Int))] ++ [], [.row u ns.length 2 (rowL ns) 96], k + 2 * q⟩
  simp only at hq hl hk
  refine VC.sr ?_
  refine VO.val rfl rfl (OpV.lss rfl rfl rfl) ?_
  refine VO.nil ?_
  refine VC.seq ?_
  refine VC.cond rfl (fun aH1b => ?_) (fun aH1b => ?_)
  · have aH1 := aH1b
    try simp only [qqT, qqF, qqN, qqM, qqL, qqE] at aH1
    refine VC.skip ?_
    refine VC.seq ?_
    refine VC.block ?_
    refine VC.sr ?_
    refine VO.val rfl rfl (OpV.indexAddr_1 rfl Tryz.underlying67 Tryz.sizeOf9 rfl rfl rfl (by show _ < 5; omega)) ?_
    refine VO.val rfl rfl (OpV.load_at rfl hB OutW.no Tryz.isAgg9 rfl rfl) ?_
    refine VO.ma rfl rfl rfl rfl ?_
    refine VO.nil ?_
    refine VC.sr ?_
    refine VO.mv rfl rfl rfl rfl ?_
    refine VO.op rfl (OpE.callT' (k + 2 * q) rfl rfl hB rfl Tryz.call17 rfl ((flip_T (by omega))) (by omega) ?_)
    rintro _ ⟨r14, rfl⟩
    refine VO.nil ?_
    refine VC.cond rfl (fun aH2b => ?_) (fun aH2b => ?_)
    · have aH2 := aH2b
      try simp only [qqT, qqF, qqN, qqM, qqL, qqE] at aH2
      refine VC.region ?_
      refine VO.mv rfl rfl rfl rfl ?_
      refine VO.mv rfl rfl rfl rfl ?_
      refine VO.mv rfl rfl rfl rfl ?_
      refine VO.op rfl (OpE.buildSlice (zc := #[.int .i64 0, .int .i64 0, .int .i64 0, .int .i64 0, .int .i64 0]) rfl hB rfl Tryz.underlying22 Tryz.sizeOf3 Tryz.zeroValue3 (by decide) (by decide) (by kernel_rfl) rfl rfl ?_)
      refine VO.op rfl (OpE.callT' (k + 2 * q + 1) rfl rfl hB rfl Tryz.call15 rfl ((pick_T (-100000000) 100000000 (by rfl) (by decide) (by decide) (by repeat (first | exact AllI.nil | refine AllI.cons (by omega) ?_)))) (by omega) ?_)
      rintro _ ⟨r19, hr19, rfl⟩
      refine VO.val rfl rfl (OpV.build (pls := #[(0, 1), (1, 1)]) rfl Tryz.zeroValue96 Tryz.underlying96 (fun w => by kernel_rfl) rfl rfl) ?_
      refine VO.op rfl (OpE.buildSlice (zc := #[.string ⟨#[]⟩, .int .i64 0]) rfl hB rfl Tryz.underlying77 Tryz.sizeOf96 Tryz.zeroValue96 (by decide) (by decide) (by kernel_rfl) rfl rfl ?_)
      refine VO.op rfl (OpE.append1 (i := 0) rfl hB rfl Tryz.underlying77 (infoOf Tryz.t96 2 (by kernel_rfl) rfl rfl) rfl (by decide) (by decide) rfl rfl rfl rfl (rowL_snoc ns (⟨keys5.getD q ByteArray.empty, r19⟩ : NeedS)) (by omega) (fun _ _ => trivial) ?_)
      intro u2
      refine VO.ma rfl rfl rfl rfl ?_
      refine VO.nil ?_
      refine VC.region ?_
      refine VO.val rfl rfl (OpV.add rfl rfl rfl (by unfold fits; omega)) ?_
      refine VO.mv rfl rfl rfl rfl ?_
      refine VO.nil ?_
      exact Exists.intro (⟨(u2, ns ++ [⟨keys5.getD q ByteArray.empty, r19⟩], q + 1), by show q + 1 ≤ 5; omega, by show (ns ++ [_]).length ≤ q + 1; simp; omega, fun x hx => by rcases List.mem_append.1 hx with hx | hx; exact hk x hx; (simp at hx; subst hx; exact keys5_size _)⟩) (And.intro (Le.mk hB [0] ⟨rfl, rfl, rfl, rfl, rfl, trivial⟩ rfl (by dsimp only; first | rfl | (rw [List.length_append]; rfl)) (show k + 2 * q + 1 + 1 ≤ k + 2 * (q + 1) by omega)) (by first | omega | (show _ < _; omega) | (simp only []; omega)))
    · have aH2 := aH2b
      try simp only [qqT, qqF, qqN, qqM, qqL, qqE] at aH2
      refine VC.skip ?_
      refine VC.region ?_
      refine VO.val rfl rfl (OpV.add rfl rfl rfl (by unfold fits; omega)) ?_
      refine VO.mv rfl rfl rfl rfl ?_
      refine VO.nil ?_
      exact Exists.intro (⟨(u, ns, q + 1), by show q + 1 ≤ 5; omega, by show ns.length ≤ q + 1; omega, hk⟩) (And.intro (Le.mk hB [0] ⟨rfl, rfl, rfl, rfl, rfl, trivial⟩ rfl (by dsimp only; first | rfl | (rw [List.length_append]; rfl)) (show k + 2 * q + 1 ≤ k + 2 * (q + 1) by omega)) (by first | omega | (show _ < _; omega) | (simp only []; omega)))
  · have aH1 := aH1b
    try simp only [qqT, qqF, qqN, qqM, qqL, qqE] at aH1
    refine VC.exit ?_
    refine VC.seq ?_
    refine VC.seq ?_
    have hok : NOk ns := ⟨by omega, hk⟩
    refine VC.region ?_
    refine VO.mv rfl rfl rfl rfl ?_
    refine VO.val rfl rfl (OpV.len_row (i := 0) rfl Tryz.underlying77 rfl rfl) ?_
    refine VO.val rfl rfl (OpV.gtr rfl rfl rfl) ?_
    refine VO.mv rfl rfl rfl rfl ?_
    refine VO.opG rfl rfl rfl rfl (fun aK3b => ?_) (fun aK3b => ?_)
    · replace aK3b : _ = true := aK3b
      have aK3 := aK3b
      try simp only [qqT, qqF, qqN, qqM, qqL, qqE] at aK3
      refine OpE.val (W := NoB) (OpV.move (.inl rfl) rfl) rfl ?_
      refine VO.opY rfl rfl rfl rfl aK3b ?_
      refine OpE.callT' (k + 2 * q) rfl rfl hB rfl Tryz.call17 rfl ((flip_T (by omega))) (by omega) ?_
      rintro _ ⟨r29, rfl⟩
      refine VO.val rfl rfl (OpV.pickT rfl rfl rfl rfl aK3b) ?_
      refine VO.nil ?_
      refine VC.cond rfl (fun aH4b => ?_) (fun aH4b => ?_)
      · have aH4 := aH4b
        try simp only [qqT, qqF, qqN, qqM, qqL, qqE] at aH4
        refine VC.seq ?_
        refine VC.asBox (i := 0) rfl (by omega) (fun g cap hu hcap hmx => ?_)
        subst hu
        refine VC.region ?_
        refine VO.mv rfl rfl rfl rfl ?_
        refine VO.mv rfl rfl rfl rfl ?_
        refine VO.mv rfl rfl rfl rfl ?_
        refine VO.val rfl rfl (OpV.len_v rfl Tryz.underlying77 rfl) ?_
        refine VO.op rfl (OpE.callT' (k + 2 * q + 1) rfl rfl hB rfl Tryz.call103 rfl ((next_T (by omega))) (by omega) ?_)
        rintro _ ⟨r35, hr35, rfl⟩
        obtain ⟨m, rfl⟩ : ∃ m : Nat, r35 = m := ⟨r35.toNat, by omega⟩
        refine VO.val rfl rfl (OpV.indexAddr_q rfl Tryz.underlying77 Tryz.sizeOf96 rfl rfl rfl (by omega)) ?_
        refine VO.ma rfl rfl rfl rfl ?_
        refine VO.nil ?_
        refine VC.draw (fun j b => (j = 18 ∧ b = g) ∨ (j = 21 ∧ b = g)) hB (by kernel_rfl) ?_
        refine VA.take (i := 0) rfl (by kernel_rfl) (by kernel_rfl) (by kernel_rfl) rfl rfl (OpV.move (.inl rfl) rfl) ?_
        refine VA.take (i := 1) rfl (by kernel_rfl) (by kernel_rfl) (by kernel_rfl) rfl rfl (OpV.move (.inl rfl) rfl) ?_
        refine VA.take (i := 2) rfl (by kernel_rfl) (by kernel_rfl) (by kernel_rfl) rfl rfl (OpV.move (.inl rfl) rfl) ?_
        refine VA.take (i := 3) rfl (by kernel_rfl) (by kernel_rfl) (by kernel_rfl) rfl rfl (OpV.move (.inl rfl) rfl) ?_
        refine VA.take (i := 4) rfl (by kernel_rfl) (by kernel_rfl) (by kernel_rfl) rfl rfl (OpV.nilCheck rfl rfl) ?_
        refine VA.take (i := 5) rfl (by kernel_rfl) (by kernel_rfl) (by kernel_rfl) rfl rfl (OpV.fieldAddrO 0 rfl Tryz.underlying96 rfl rfl Tryz.sizeOf9 rfl) ?_
        refine VA.take (i := 6) rfl (by kernel_rfl) (by kernel_rfl) (by kernel_rfl) rfl rfl (OpV.load_own (i := 0) rfl hB Tryz.isAgg9 rfl rfl (rowL_at rfl (by omega) (by decide)) (by first | exact Wi.not1 (by kernel_rfl) | exact Wi.not2 (by kernel_rfl) (by kernel_rfl) | exact Wi.notX (by kernel_rfl))) ?_
        refine VA.take (i := 9) rfl (by kernel_rfl) (by kernel_rfl) (by kernel_rfl) rfl rfl (OpV.move (.inl rfl) rfl) ?_
        refine VA.take (i := 10) rfl (by kernel_rfl) (by kernel_rfl) (by kernel_rfl) rfl rfl (OpV.move (.inl rfl) rfl) ?_
        refine VA.take (i := 11) rfl (by kernel_rfl) (by kernel_rfl) (by kernel_rfl) rfl rfl (OpV.nilCheck rfl rfl) ?_
        refine VA.take (i := 12) rfl (by kernel_rfl) (by kernel_rfl) (by kernel_rfl) rfl rfl (OpV.fieldAddrO 1 rfl Tryz.underlying96 rfl rfl Tryz.sizeOf3 rfl) ?_
        refine VA.take (i := 13) rfl (by kernel_rfl) (by kernel_rfl) (by kernel_rfl) rfl rfl (OpV.load_own (i := 0) rfl hB Tryz.isAgg3 rfl rfl (rowL_at rfl (by omega) (by decide)) (by first | exact Wi.not1 (by kernel_rfl) | exact Wi.not2 (by kernel_rfl) (by kernel_rfl) | exact Wi.notX (by kernel_rfl))) ?_
        refine VA.all (rs := [7, 14]) (by kernel_rfl) (by decide) ?_
        refine ⟨⟨_, rfl, .inl rfl, ?_⟩, ⟨_, rfl, .inl rfl, ?_⟩, trivial⟩
        ·
          refine OpE.buildSlice (zc := #[.string ⟨#[]⟩, .string ⟨#[]⟩, .string ⟨#[]⟩, .string ⟨#[]⟩]) rfl hB rfl Tryz.underlying67 Tryz.sizeOf9 Tryz.zeroValue9 (by decide) (by decide) (by kernel_rfl) rfl rfl ?_
          refine VA.all (rs := [8, 14]) (by kernel_rfl) (by decide) ?_
          refine ⟨⟨_, rfl, .inl rfl, ?_⟩, ⟨_, rfl, .inl rfl, ?_⟩, trivial⟩
          ·
            refine OpE.callT' (k + 2 * q + 1 + 1) rfl rfl hB rfl Tryz.call16 rfl (some_T 1000 (by rfl) (by decide) (by decide) (AllS.cons (hok.key m) (AllS.cons (by decide) (AllS.cons (by decide) (AllS.cons (by decide) AllS.nil))))) (by omega) ?_
            rintro _ ⟨r45, hr45, rfl⟩
            refine VA.all (rs := [14]) (by kernel_rfl) (by decide) ?_
            refine ⟨⟨_, rfl, .inl rfl, ?_⟩, trivial⟩
            refine OpE.buildSlice (zc := #[.int .i64 0, .int .i64 0, .int .i64 0, .int .i64 0]) rfl hB rfl Tryz.underlying22 Tryz.sizeOf3 Tryz.zeroValue3 (by decide) (by decide) (by kernel_rfl) rfl rfl ?_
            refine VA.all (rs := [15]) (by kernel_rfl) (by decide) ?_
            refine ⟨⟨_, rfl, .inl rfl, ?_⟩, trivial⟩
            refine OpE.callT' (k + 2 * q + 1 + 1 + 1) rfl rfl hB rfl Tryz.call15 rfl (pick_X (by rfl) (by decide) (by decide) (by repeat (first | exact AllX.nil | refine AllX.cons ?_))) (by omega) ?_
            rintro _ ⟨r52, rfl⟩
            refine VA.take (i := 16) rfl (by kernel_rfl) (by kernel_rfl) (by kernel_rfl) rfl rfl (OpV.nilCheck rfl rfl) ?_
            refine VA.take (i := 17) rfl (by kernel_rfl) (by kernel_rfl) (by kernel_rfl) rfl rfl (OpV.fieldAddrO 0 rfl Tryz.underlying96 rfl rfl Tryz.sizeOf9 rfl) ?_
            refine VA.all (rs := [18]) (by kernel_rfl) (by decide) ?_
            refine ⟨⟨_, rfl, .inl rfl, ?_⟩, trivial⟩
            refine OpE.store1 (i := 0) rfl hB rfl Tryz.sizeOf9 rfl rfl rfl rfl rfl rfl (rowL_in rfl (by omega) (by decide)) (rowL_set (x := (⟨r45, (ns.getD m default).count⟩ : NeedS)) rfl (by omega) (by decide) rfl (ne2_0 rfl)) (by first | exact ⟨rfl, rfl⟩ | exact .inl ⟨rfl, rfl⟩ | exact .inr ⟨rfl, rfl⟩ | exact ⟨rfl, trivial⟩ | exact .inl ⟨rfl, trivial⟩ | exact .inr ⟨rfl, trivial⟩ | exact ⟨by decide, rfl⟩) ?_
            refine VA.take (i := 19) rfl (by kernel_rfl) (by kernel_rfl) (by kernel_rfl) rfl rfl (OpV.nilCheck rfl rfl) ?_
            refine VA.take (i := 20) rfl (by kernel_rfl) (by kernel_rfl) (by kernel_rfl) rfl rfl (OpV.fieldAddrO 1 rfl Tryz.underlying96 rfl rfl Tryz.sizeOf3 rfl) ?_
            refine VA.all (rs := [21]) (by kernel_rfl) (by decide) ?_
            refine ⟨⟨_, rfl, .inl rfl, ?_⟩, trivial⟩
            refine OpE.store1 (i := 0) rfl hB rfl Tryz.sizeOf3 rfl rfl rfl rfl rfl rfl (rowL_in rfl (by rw [List.length_set]; omega) (by decide)) (rowL_set (x := (⟨r45, r52⟩ : NeedS)) rfl (by rw [List.length_set]; omega) (by decide) rfl (ne2_1 (by rw [getD_set_self (by omega)]; rfl))) (by first | exact ⟨rfl, rfl⟩ | exact .inl ⟨rfl, rfl⟩ | exact .inr ⟨rfl, rfl⟩ | exact ⟨rfl, trivial⟩ | exact .inl ⟨rfl, trivial⟩ | exact .inr ⟨rfl, trivial⟩ | exact ⟨by decide, rfl⟩) ?_
            refine VA.done (by kernel_rfl) ?_
            refine VC.sr ?_
            refine VO.mv rfl rfl rfl rfl ?_
            refine VO.ma rfl rfl rfl rfl ?_
            refine VO.nil ?_
            refine VC.le _ (Le.boxT (t := 2) (i := 0) (n := ns.length) hB hnew rfl rfl (by simp) hcap hmx) ?_
            refine VC.ret ?_
            exact Exists.intro _ (And.intro (RetV.one Tryz.results67 (ResV.tmp rfl)) (And.intro (by first | exact ⟨_, ⟨hok.small, hok.1⟩, rfl⟩ | exact ⟨_, ⟨((hok.set m (x := ⟨r45, (ns.getD m default).count⟩) hr45).set m (x := ⟨r45, r52⟩) hr45).small, ((hok.set m (x := ⟨r45, (ns.getD m default).count⟩) hr45).set m (x := ⟨r45, r52⟩) hr45).1⟩, rfl⟩) ((show k + 2 * q + 1 + 1 + 1 + 1 ≤ k + 20 by omega))))
          ·
            refine OpE.buildSlice (zc := #[.int .i64 0, .int .i64 0, .int .i64 0, .int .i64 0]) rfl hB rfl Tryz.underlying22 Tryz.sizeOf3 Tryz.zeroValue3 (by decide) (by decide) (by kernel_rfl) rfl rfl ?_
            refine VA.all (rs := [8]) (by kernel_rfl) (by decide) ?_
            refine ⟨⟨_, rfl, .inl rfl, ?_⟩, trivial⟩
            refine OpE.callT' (k + 2 * q + 1 + 1) rfl rfl hB rfl Tryz.call16 rfl (some_T 1000 (by rfl) (by decide) (by decide) (AllS.cons (hok.key m) (AllS.cons (by decide) (AllS.cons (by decide) (AllS.cons (by decide) AllS.nil))))) (by omega) ?_
            rintro _ ⟨r45, hr45, rfl⟩
            refine VA.all (rs := [15]) (by kernel_rfl) (by decide) ?_
            refine ⟨⟨_, rfl, .inl rfl, ?_⟩, trivial⟩
            refine OpE.callT' (k + 2 * q + 1 + 1 + 1) rfl rfl hB rfl Tryz.call15 rfl (pick_X (by rfl) (by decide) (by decide) (by repeat (first | exact AllX.nil | refine AllX.cons ?_))) (by omega) ?_
            rintro _ ⟨r52, rfl⟩
            refine VA.take (i := 16) rfl (by kernel_rfl) (by kernel_rfl) (by kernel_rfl) rfl rfl (OpV.nilCheck rfl rfl) ?_
            refine VA.take (i := 17) rfl (by kernel_rfl) (by kernel_rfl) (by kernel_rfl) rfl rfl (OpV.fieldAddrO 0 rfl Tryz.underlying96 rfl rfl Tryz.sizeOf9 rfl) ?_
            refine VA.all (rs := [18]) (by kernel_rfl) (by decide) ?_
            refine ⟨⟨_, rfl, .inl rfl, ?_⟩, trivial⟩
            refine OpE.store1 (i := 0) rfl hB rfl Tryz.sizeOf9 rfl rfl rfl rfl rfl rfl (rowL_in rfl (by omega) (by decide)) (rowL_set (x := (⟨r45, (ns.getD m default).count⟩ : NeedS)) rfl (by omega) (by decide) rfl (ne2_0 rfl)) (by first | exact ⟨rfl, rfl⟩ | exact .inl ⟨rfl, rfl⟩ | exact .inr ⟨rfl, rfl⟩ | exact ⟨rfl, trivial⟩ | exact .inl ⟨rfl, trivial⟩ | exact .inr ⟨rfl, trivial⟩ | exact ⟨by decide, rfl⟩) ?_
            refine VA.take (i := 19) rfl (by kernel_rfl) (by kernel_rfl) (by kernel_rfl) rfl rfl (OpV.nilCheck rfl rfl) ?_
            refine VA.take (i := 20) rfl (by kernel_rfl) (by kernel_rfl) (by kernel_rfl) rfl rfl (OpV.fieldAddrO 1 rfl Tryz.underlying96 rfl rfl Tryz.sizeOf3 rfl) ?_
            refine VA.all (rs := [21]) (by kernel_rfl) (by decide) ?_
            refine ⟨⟨_, rfl, .inl rfl, ?_⟩, trivial⟩
            refine OpE.store1 (i := 0) rfl hB rfl Tryz.sizeOf3 rfl rfl rfl rfl rfl rfl (rowL_in rfl (by rw [List.length_set]; omega) (by decide)) (rowL_set (x := (⟨r45, r52⟩ : NeedS)) rfl (by rw [List.length_set]; omega) (by decide) rfl (ne2_1 (by rw [getD_set_self (by omega)]; rfl))) (by first | exact ⟨rfl, rfl⟩ | exact .inl ⟨rfl, rfl⟩ | exact .inr ⟨rfl, rfl⟩ | exact ⟨rfl, trivial⟩ | exact .inl ⟨rfl, trivial⟩ | exact .inr ⟨rfl, trivial⟩ | exact ⟨by decide, rfl⟩) ?_
            refine VA.done (by kernel_rfl) ?_
            refine VC.sr ?_
            refine VO.mv rfl rfl rfl rfl ?_
            refine VO.ma rfl rfl rfl rfl ?_
            refine VO.nil ?_
            refine VC.le _ (Le.boxT (t := 2) (i := 0) (n := ns.length) hB hnew rfl rfl (by simp) hcap hmx) ?_
            refine VC.ret ?_
            exact Exists.intro _ (And.intro (RetV.one Tryz.results67 (ResV.tmp rfl)) (And.intro (by first | exact ⟨_, ⟨hok.small, hok.1⟩, rfl⟩ | exact ⟨_, ⟨((hok.set m (x := ⟨r45, (ns.getD m default).count⟩) hr45).set m (x := ⟨r45, r52⟩) hr45).small, ((hok.set m (x := ⟨r45, (ns.getD m default).count⟩) hr45).set m (x := ⟨r45, r52⟩) hr45).1⟩, rfl⟩) ((show k + 2 * q + 1 + 1 + 1 + 1 ≤ k + 20 by omega))))
        ·
          refine OpE.buildSlice (zc := #[.int .i64 0, .int .i64 0, .int .i64 0, .int .i64 0]) rfl hB rfl Tryz.underlying22 Tryz.sizeOf3 Tryz.zeroValue3 (by decide) (by decide) (by kernel_rfl) rfl rfl ?_
          refine VA.all (rs := [7]) (by kernel_rfl) (by decide) ?_
          refine ⟨⟨_, rfl, .inl rfl, ?_⟩, trivial⟩
          refine OpE.buildSlice (zc := #[.string ⟨#[]⟩, .string ⟨#[]⟩, .string ⟨#[]⟩, .string ⟨#[]⟩]) rfl hB rfl Tryz.underlying67 Tryz.sizeOf9 Tryz.zeroValue9 (by decide) (by decide) (by kernel_rfl) rfl rfl ?_
          refine VA.all (rs := [8]) (by kernel_rfl) (by decide) ?_
          refine ⟨⟨_, rfl, .inl rfl, ?_⟩, trivial⟩
          refine OpE.callT' (k + 2 * q + 1 + 1) rfl rfl hB rfl Tryz.call16 rfl (some_T 1000 (by rfl) (by decide) (by decide) (AllS.cons (hok.key m) (AllS.cons (by decide) (AllS.cons (by decide) (AllS.cons (by decide) AllS.nil))))) (by omega) ?_
          rintro _ ⟨r45, hr45, rfl⟩
          refine VA.all (rs := [15]) (by kernel_rfl) (by decide) ?_
          refine ⟨⟨_, rfl, .inl rfl, ?_⟩, trivial⟩
          refine OpE.callT' (k + 2 * q + 1 + 1 + 1) rfl rfl hB rfl Tryz.call15 rfl (pick_X (by rfl) (by decide) (by decide) (by repeat (first | exact AllX.nil | refine AllX.cons ?_))) (by omega) ?_
          rintro _ ⟨r52, rfl⟩
          refine VA.take (i := 16) rfl (by kernel_rfl) (by kernel_rfl) (by kernel_rfl) rfl rfl (OpV.nilCheck rfl rfl) ?_
          refine VA.take (i := 17) rfl (by kernel_rfl) (by kernel_rfl) (by kernel_rfl) rfl rfl (OpV.fieldAddrO 0 rfl Tryz.underlying96 rfl rfl Tryz.sizeOf9 rfl) ?_
          refine VA.all (rs := [18]) (by kernel_rfl) (by decide) ?_
          refine ⟨⟨_, rfl, .inl rfl, ?_⟩, trivial⟩
          refine OpE.store1 (i := 0) rfl hB rfl Tryz.sizeOf9 rfl rfl rfl rfl rfl rfl (rowL_in rfl (by omega) (by decide)) (rowL_set (x := (⟨r45, (ns.getD m default).count⟩ : NeedS)) rfl (by omega) (by decide) rfl (ne2_0 rfl)) (by first | exact ⟨rfl, rfl⟩ | exact .inl ⟨rfl, rfl⟩ | exact .inr ⟨rfl, rfl⟩ | exact ⟨rfl, trivial⟩ | exact .inl ⟨rfl, trivial⟩ | exact .inr ⟨rfl, trivial⟩ | exact ⟨by decide, rfl⟩) ?_
          refine VA.take (i := 19) rfl (by kernel_rfl) (by kernel_rfl) (by kernel_rfl) rfl rfl (OpV.nilCheck rfl rfl) ?_
          refine VA.take (i := 20) rfl (by kernel_rfl) (by kernel_rfl) (by kernel_rfl) rfl rfl (OpV.fieldAddrO 1 rfl Tryz.underlying96 rfl rfl Tryz.sizeOf3 rfl) ?_
          refine VA.all (rs := [21]) (by kernel_rfl) (by decide) ?_
          refine ⟨⟨_, rfl, .inl rfl, ?_⟩, trivial⟩
          refine OpE.store1 (i := 0) rfl hB rfl Tryz.sizeOf3 rfl rfl rfl rfl rfl rfl (rowL_in rfl (by rw [List.length_set]; omega) (by decide)) (rowL_set (x := (⟨r45, r52⟩ : NeedS)) rfl (by rw [List.length_set]; omega) (by decide) rfl (ne2_1 (by rw [getD_set_self (by omega)]; rfl))) (by first | exact ⟨rfl, rfl⟩ | exact .inl ⟨rfl, rfl⟩ | exact .inr ⟨rfl, rfl⟩ | exact ⟨rfl, trivial⟩ | exact .inl ⟨rfl, trivial⟩ | exact .inr ⟨rfl, trivial⟩ | exact ⟨by decide, rfl⟩) ?_
          refine VA.done (by kernel_rfl) ?_
          refine VC.sr ?_
          refine VO.mv rfl rfl rfl rfl ?_
          refine VO.ma rfl rfl rfl rfl ?_
          refine VO.nil ?_
          refine VC.le _ (Le.boxT (t := 2) (i := 0) (n := ns.length) hB hnew rfl rfl (by simp) hcap hmx) ?_
          refine VC.ret ?_
          exact Exists.intro _ (And.intro (RetV.one Tryz.results67 (ResV.tmp rfl)) (And.intro (by first | exact ⟨_, ⟨hok.small, hok.1⟩, rfl⟩ | exact ⟨_, ⟨((hok.set m (x := ⟨r45, (ns.getD m default).count⟩) hr45).set m (x := ⟨r45, r52⟩) hr45).small, ((hok.set m (x := ⟨r45, (ns.getD m default).count⟩) hr45).set m (x := ⟨r45, r52⟩) hr45).1⟩, rfl⟩) ((show k + 2 * q + 1 + 1 + 1 + 1 ≤ k + 20 by omega))))
      · have aH4 := aH4b
        try simp only [qqT, qqF, qqN, qqM, qqL, qqE] at aH4
        refine VC.skip ?_
        refine VC.sr ?_
        refine VO.mv rfl rfl rfl rfl ?_
        refine VO.ma rfl rfl rfl rfl ?_
        refine VO.nil ?_
        refine VC.le _ (Le.rowT (t := 2) (i := 0) (n := ns.length) (xs := ns) hB hnew rfl rfl rfl) ?_
        refine VC.ret ?_
        exact Exists.intro _ (And.intro (RetV.one Tryz.results67 (ResV.tmp rfl)) (And.intro (by first | exact ⟨_, ⟨hok.small, hok.1⟩, rfl⟩ | exact ⟨_, ⟨((hok.set m (x := ⟨r45, (ns.getD m default).count⟩) hr45).set m (x := ⟨r45, r52⟩) hr45).small, ((hok.set m (x := ⟨r45, (ns.getD m default).count⟩) hr45).set m (x := ⟨r45, r52⟩) hr45).1⟩, rfl⟩) ((show k + 2 * q + 1 ≤ k + 20 by omega))))
    · replace aK3b : _ = false := aK3b
      have aK3 := aK3b
      try simp only [qqT, qqF, qqN, qqM, qqL, qqE] at aK3
      refine VO.opX rfl rfl rfl rfl aK3b ?_
      refine VO.val rfl rfl (OpV.pickF rfl rfl rfl rfl aK3b) ?_
      refine VO.nil ?_
      refine VC.condF rfl rfl ?_
      refine VC.skip ?_
      refine VC.sr ?_
      refine VO.mv rfl rfl rfl rfl ?_
      refine VO.ma rfl rfl rfl rfl ?_
      refine VO.nil ?_
      refine VC.le _ (Le.rowT (t := 2) (i := 0) (n := ns.length) (xs := ns) hB hnew rfl rfl rfl) ?_
      refine VC.ret ?_
      exact Exists.intro _ (And.intro (RetV.one Tryz.results67 (ResV.tmp rfl)) (And.intro (by first | exact ⟨_, ⟨hok.small, hok.1⟩, rfl⟩ | exact ⟨_, ⟨((hok.set m (x := ⟨r45, (ns.getD m default).count⟩) hr45).set m (x := ⟨r45, r52⟩) hr45).small, ((hok.set m (x := ⟨r45, (ns.getD m default).count⟩) hr45).set m (x := ⟨r45, r52⟩) hr45).1⟩, rfl⟩) ((show k + 2 * q ≤ k + 20 by omega))))

end Go.Proofs.YtaaokimiadfidaaGreatDoor
namespace Go.Proofs.YtaaokimiadfidaaGreatDoor
open Go.RowKit
set_option linter.unusedVariables false
set_option linter.unusedSimpArgs false

structure MR where
 key : ByteArray
 each : Int
 fixed : Int
 feeders : Int
 b : Option Addr
 c : Nat
 can : List ByteArray
instance : Inhabited MR := ⟨⟨ByteArray.empty, 0, 0, 0, none, 0, []⟩⟩
def MR.val (m : MR) : Value := .slice m.b m.can.length m.c
instance : Sxc MR where
 k := 5
 pos := by decide
 cell m j := match j with
  | 0 => avS m.key
  | 1 => avI m.each
  | 2 => avI m.fixed
  | 3 => avI m.feeders
  | 4 => .v (.slice m.b m.can.length m.c)
  | _ => .any
def rowM (m : MR) : Ent := .row (.slice m.b m.can.length m.c) m.can.length 1 (strsL m.can) 9
def mkKey (q : Nat) : ByteArray := ⟨#[109]⟩ ++ Utf8.encode (49 + (q : Int))
theorem encode_small (n : Int) : (Utf8.encode n).size ≤ 4 := by
 unfold Utf8.encode
 simp only
 repeat' split
 all_goals simp [ByteArray.size]
theorem permM {m : MR} {e : Ent} {l : List MR} : (rowM m :: e :: l.map rowM).Perm (e :: (l ++ [m]).map rowM) := by
 rw [List.map_append]
 exact (List.Perm.swap e (rowM m) _).trans (List.Perm.cons e (List.perm_append_comm (l₁ := [rowM m]) (l₂ := l.map rowM)))
theorem famAt {e : Ent} {l : List MR} {m : Nat} (h : m < l.length) : (e :: l.map rowM)[m + 1]? = some (rowM (l.getD m default)) := by simp [h]
def toM (m : MR) : Mach := ⟨m.key, m.each, m.fixed, m.feeders, m.can⟩
theorem Rep.im_mono {w : World} {Z : Nat → Prop} {n sz : Nat} {f g : Nat → AV} (h : ∀ j, j < n * sz → ∀ u, Rep w Z (f j) u → Rep w Z (g j) u) {u : Value} (hr : Rep w Z (.im n sz f) u) : Rep w Z (.im n sz g) u := by
 cases hr with
 | nil => exact .nil sz g
 | im n sz f b off cap c e u hZ h1 h2 hb hc hr => exact .im n sz g b off cap c e u hZ h1 h2 hb hc fun j hj => h j hj _ (hr j hj)
theorem fam_avL {w : World} {Z : Nat → Prop} {l : List MR} {u : Value} {n : Nat} (hn : n = l.length) (h : Rep w Z (.im n 5 fun j => (rowL l).getD j .any) u)
  (hc : ∀ q, q < l.length → Rep w Z (avStrs (l.getD q default).can) (.slice (l.getD q default).b (l.getD q default).can.length (l.getD q default).c)) : Rep w Z (avL (l.map toM)) u := by
 subst hn
 have e : avL (l.map toM) = .im l.length 5 (fun j => Sxc.cell ((l.map toM).getD (j / 5) default) (j % 5)) := by
  show AV.im (l.map toM).length 5 _ = _
  rw [List.length_map]
  rfl
 rw [e]
 refine h.im_mono fun j hj u hu => ?_
 have hd : j / 5 < l.length := by omega
 have hm : j % 5 < 5 := by omega
 have e1 := rowL_get l (j / 5) (j % 5) hd hm
 have e2 : j / 5 * Sxc.k MR + j % 5 = j := by show j / 5 * 5 + j % 5 = j; omega
 rw [e2] at e1
 rw [List.getD_eq_getElem?_getD, e1] at hu
 have e3 : (l.map toM).getD (j / 5) default = toM (l.getD (j / 5) default) := by simp [hd]
 rw [e3]
 have hq := hc _ hd
 simp only [Option.getD_some] at hu
 generalize j % 5 = i at hu hm
 match i, hm with
 | 0, _ => exact hu
 | 1, _ => exact hu
 | 2, _ => exact hu
 | 3, _ => exact hu
 | 4, _ =>
  have : u = .slice (l.getD (j / 5) default).b (l.getD (j / 5) default).can.length (l.getD (j / 5) default).c := hu.eq_v
  rw [this]; exact hq
theorem Le.fam {B : Bs} {s : St'} {t n : Nat} {u : Value} {l : List MR} (hB : B.Ok) (hnew : True) (ht : look s.sl t = some (.v u)) (hn : n = l.length)
  (hu : (∃ ty, s.hp[0]? = some (.row u n 5 (rowL l) ty)) ∨ ∃ g cap ty tot, u = .slice (some ⟨g, 0, none⟩) n cap ∧ n ≤ cap ∧ cap ≤ maxLen ∧ s.hp[0]? = some (.box g ⟨rowL l, ty, tot⟩))
  (hrows : ∀ q, q < l.length → s.hp[q + 1]? = some (rowM (l.getD q default))) : Le B s ⟨(t, avL (l.map toM)) :: s.sl, [], s.k⟩ := fun a w hr => by
 have hold : ∀ e ∈ s.hp, ∀ g, e.blk = some g → g < w.heap.size → Zn B [] w g := fun e he g hg hl => ⟨hl, fun p hp => by simp at hp, fun h0 => by
  have h1 := hr.own e he g hg
  exact ⟨.inr (h1.2 h0), fun hs => h1.1 (hB.str g hs).1⟩⟩
 have hZ : ∀ b, Zn B s.hp w b → Zn B [] w b := fun b hb => ⟨hb.1, fun p hp => by simp at hp, hb.2.2⟩
 have hr' : R B ⟨s.sl, [], s.k⟩ a w := hr.drop (fun _ _ h => h) (List.nil_sublist _)
 refine hr'.over t ?_
 rw [(hr.slots t _ ht).eq_v]
 refine fam_avL hn ?_ fun q hq => ?_
 ·rcases hu with ⟨ty, hi⟩ | ⟨g, cap, ty, tot, rfl, h1, h2, hi⟩
  ·exact hr.repRow hi hZ fun g hg hl => hold _ (List.mem_of_getElem? hi) g hg hl
  ·have := hr.repBox (off := 0) (n := n) (sz := 5) (cap := cap) hi (by show 0 + n * 5 ≤ (rowL l).length; rw [rowL_len, hn]; show 0 + l.length * 5 ≤ l.length * 5; omega) h1 h2 hZ (hold _ (List.mem_of_getElem? hi) g rfl)
   exact this.im_congr fun j hj => by rw [Nat.zero_add]
 ·have hi := hrows q hq
  exact Rep.strs rfl (hr.repRow hi hZ fun g hg hl => hold _ (List.mem_of_getElem? hi) g hg hl)
def MRok (x : MR) : Prop := x.key.size ≤ 1000 ∧ x.can.length ≤ 5 ∧ ∀ y ∈ x.can, y.size ≤ 1000
theorem MRok.getD {l : List MR} (h : ∀ x ∈ l, MRok x) {m : Nat} (hm : m < l.length) : MRok (l.getD m default) := by
 have := h _ (List.getElem_mem hm)
 simpa [hm] using this
theorem famAt' {e : Ent} {L : List Ent} {l : List MR} {q : Nat} (h : l.map rowM = L) (hq : q < l.length) : (e :: L)[q + 1]? = some (rowM (l.getD q default)) := by subst h; exact famAt hq
theorem famSet {l : List MR} {m : Nat} {x : MR} (hm : m < l.length) (hx : rowM x = rowM (l.getD m default)) : (l.set m x).map rowM = l.map rowM := by
 rw [List.map_set, hx]
 apply List.ext_getElem (by simp)
 intro i h1 h2
 rw [List.getElem_set]
 split
 ·rename_i e; subst e; simp [hm]
 ·rfl
theorem MRok.small {l : List MR} (hl : l.length ≤ 100) (h : ∀ x ∈ l, x.key.size ≤ 1000 ∧ x.can.length ≤ 6 ∧ ∀ y ∈ x.can, y.size ≤ 1000) : SmallM (l.map toM) := by
 have key : ∀ i, ((l.map toM).getD i default).key.size ≤ 1000 ∧ ((l.map toM).getD i default).can.length ≤ 6 ∧ ∀ y ∈ ((l.map toM).getD i default).can, y.size ≤ 1000 := fun i => by
  by_cases hi : i < l.length
  ·have := h _ (List.getElem_mem hi)
   simpa [hi, toM] using this
  ·have : (l.map toM).getD i default = default := by simp [List.getD_eq_getElem?_getD, hi]
   rw [this]
   exact ⟨by decide, by decide, fun y hy => by cases hy⟩
 refine ⟨by rw [List.length_map]; omega, fun i => by have := (key i).1; omega, fun i => by have := (key i).2.1; omega, fun i j => ?_⟩
 by_cases hj : j < ((l.map toM).getD i default).can.length
 ·have := (key i).2.2 _ (List.getElem_mem hj)
  rw [List.getD_eq_getElem?_getD, List.getElem?_eq_getElem hj]
  simp only [Option.getD_some]
  omega
 ·rw [List.getD_eq_getElem?_getD, List.getElem?_eq_none (by omega)]
  decide
theorem MRok.six {x : MR} (h : MRok x) : x.key.size ≤ 1000 ∧ x.can.length ≤ 6 ∧ ∀ y ∈ x.can, y.size ≤ 1000 := ⟨h.1, by have := h.2.1; omega, h.2.2⟩
theorem MRok.set {l : List MR} (h : ∀ x ∈ l, MRok x) {m : Nat} {x : MR} (hx : x.key.size ≤ 1000 ∧ x.can.length ≤ 6 ∧ ∀ y ∈ x.can, y.size ≤ 1000) : ∀ y ∈ l.set m x, y.key.size ≤ 1000 ∧ y.can.length ≤ 6 ∧ ∀ z ∈ y.can, z.size ≤ 1000 := fun y hy => by
 rcases List.mem_or_eq_of_mem_set hy with h' | rfl
 ·exact (h y h').six
 ·exact hx
set_option maxRecDepth 100000 in
theorem machines_T {p : Nat} {L : List Int}  :
    SpecT Tryz.prog (TT p L) (fun b => b = p) 66 [sp p] 60 (fun y => ∃ ms : List Mach, (SmallM ms ∧ 0 < ms.length ∧ ms.length ≤ 100) ∧ y = avL ms) := by
  refine SpecT.of_VC Tryz.func66 rfl Tryz.ntmps66 (Nle rfl) (low := (fun b => b ≤ p)) (fun w A k h => h.ok) fun w A k hk hB => ?_
  have hnew : True := trivial
  refine VC.sr ?_
  refine VO.ma rfl rfl rfl rfl ?_
  refine VO.nil ?_
  refine VC.sr ?_
  refine VO.ma rfl rfl rfl rfl ?_
  refine VO.nil ?_
  refine VC.seq ?_
  refine VC.sr ?_
  refine VO.mv rfl rfl rfl rfl ?_
  refine VO.op rfl (OpE.callT' (k) rfl rfl hB rfl Tryz.call14 rfl ((range_T (by omega) (by omega) (by omega))) (by omega) ?_)
  rintro _ ⟨r10, hr10, rfl⟩
  refine VO.mv rfl rfl rfl rfl ?_
  refine VO.nil ?_
  refine VC.block ?_
  refine VC.le _ (Le.nilRow 5 128) ?_
  obtain ⟨n, rfl⟩ : ∃ m : Nat, r10 = m := ⟨r10.toNat, by omega⟩
  refine VC.loopK [] trivial ({t : Value × List MR × Nat // t.2.2 ≤ n ∧ t.2.1.length = t.2.2 ∧ ∀ x ∈ t.2.1, MRok x}) (fun (iZ : {t : Value × List MR × Nat // t.2.2 ≤ n ∧ t.2.1.length = t.2.2 ∧ ∀ x ∈ t.2.1, MRok x}) => match iZ with | ⟨⟨uo, l, q⟩, hq, hl, hok⟩ => [(0, sp p), (3, .v uo), (10, avI (n : Int)), (11, avI (q : Int))]) (fun (iZ : {t : Value × List MR × Nat // t.2.2 ≤ n ∧ t.2.1.length = t.2.2 ∧ ∀ x ∈ t.2.1, MRok x}) => match iZ with | ⟨⟨uo, l, q⟩, hq, hl, hok⟩ => (.row uo l.length 5 (rowL l) 128 :: l.map rowM)) (fun (iZ : {t : Value × List MR × Nat // t.2.2 ≤ n ∧ t.2.1.length = t.2.2 ∧ ∀ x ∈ t.2.1, MRok x}) => match iZ with | ⟨⟨uo, l, q⟩, hq, hl, hok⟩ => k + 1 + 8 * q) (fun (iZ : {t : Value × List MR × Nat // t.2.2 ≤ n ∧ t.2.1.length = t.2.2 ∧ ∀ x ∈ t.2.1, MRok x}) => match iZ with | ⟨⟨uo, l, q⟩, hq, hl, hok⟩ => n - q) ⟨(.slice none 0 0, [], 0), Nat.zero_le _, rfl, fun x h => by simp at h⟩ (Le.mkP hB ⟨rfl, rfl, rfl, rfl, trivial⟩ (List.Sublist.refl _) (List.Perm.refl _) (show k + 1 ≤ k + 1 + 8 * 0 by omega)) ?_
  rintro ⟨⟨uo, l, q⟩, hq, hl, hok⟩
  show VC _ _ _ _ ⟨[(0, sp p), (3, .v uo), (10, avI (n : Int)), (11, avI (q : Int))] ++ [], (.row uo l.length 5 (rowL l) 128 :: l.map rowM), k + 1 + 8 * q⟩
  simp only at hq hl hok
  refine VC.sr ?_
  refine VO.val rfl rfl (OpV.lss rfl rfl rfl) ?_
  refine VO.nil ?_
  refine VC.seq ?_
  refine VC.cond rfl (fun aH1b => ?_) (fun aH1b => ?_)
  · have aH1 := aH1b
    try simp only [qqT, qqF, qqN, qqM, qqL, qqE] at aH1
    refine VC.skip ?_
    refine VC.seq ?_
    refine VC.block ?_
    refine VC.sr ?_
    refine VO.mv rfl rfl rfl rfl ?_
    refine VO.ma rfl rfl rfl rfl ?_
    refine VO.nil ?_
    refine VC.sr ?_
    refine VO.mv rfl rfl rfl rfl ?_
    refine VO.val rfl rfl (OpV.add rfl rfl rfl (by unfold fits; omega)) ?_
    refine VO.val rfl rfl (OpV.conv rfl Tryz.underlying3 Tryz.underlying21 rfl (IntWalk.i32_in _ (by omega))) ?_
    refine VO.val rfl rfl (OpV.convStr rfl Tryz.underlying21 Tryz.underlying9 rfl) ?_
    refine VO.val rfl rfl (OpV.sadd rfl rfl rfl (by have := encode_small (49 + (q : Int)); have h1 : (⟨#[109]⟩ : ByteArray).size = 1 := rfl; omega)) ?_
    refine VO.mv rfl rfl rfl rfl ?_
    refine VO.op rfl (OpE.buildSlice (zc := #[.int .i64 0, .int .i64 0, .int .i64 0, .int .i64 0]) rfl hB rfl Tryz.underlying22 Tryz.sizeOf3 Tryz.zeroValue3 (by decide) (by decide) (by kernel_rfl) rfl rfl ?_)
    refine VO.op rfl (OpE.callT' (k + 1 + 8 * q) rfl rfl hB rfl Tryz.call15 rfl (pick_X (by rfl) (by decide) (by decide) (by repeat (first | exact AllX.nil | refine AllX.cons ?_))) (by omega) ?_)
    rintro _ ⟨r21, rfl⟩
    refine VO.mv rfl rfl rfl rfl ?_
    refine VO.op rfl (OpE.buildSlice (zc := #[.int .i64 0, .int .i64 0, .int .i64 0, .int .i64 0]) rfl hB rfl Tryz.underlying22 Tryz.sizeOf3 Tryz.zeroValue3 (by decide) (by decide) (by kernel_rfl) rfl rfl ?_)
    refine VO.op rfl (OpE.callT' (k + 1 + 8 * q + 1) rfl rfl hB rfl Tryz.call15 rfl (pick_X (by rfl) (by decide) (by decide) (by repeat (first | exact AllX.nil | refine AllX.cons ?_))) (by omega) ?_)
    rintro _ ⟨r24, rfl⟩
    refine VO.mv rfl rfl rfl rfl ?_
    refine VO.op rfl (OpE.buildSlice (zc := #[.int .i64 0, .int .i64 0, .int .i64 0, .int .i64 0]) rfl hB rfl Tryz.underlying22 Tryz.sizeOf3 Tryz.zeroValue3 (by decide) (by decide) (by kernel_rfl) rfl rfl ?_)
    refine VO.op rfl (OpE.callT' (k + 1 + 8 * q + 1 + 1) rfl rfl hB rfl Tryz.call15 rfl (pick_X (by rfl) (by decide) (by decide) (by repeat (first | exact AllX.nil | refine AllX.cons ?_))) (by omega) ?_)
    rintro _ ⟨r27, rfl⟩
    refine VO.val rfl rfl (OpV.build (pls := #[(0, 1), (1, 1), (2, 1), (3, 1), (4, 1)]) rfl Tryz.zeroValue128 Tryz.underlying128 (fun w => by kernel_rfl) rfl rfl) ?_
    refine VO.op rfl (OpE.alloc rfl hB rfl Tryz.zeroValue128 rfl ?_)
    intro g5
    refine VO.le _ (Le.front rfl) ?_
    refine VO.op rfl (OpE.store (i := 0) rfl hB rfl Tryz.sizeOf128 rfl rfl rfl rfl rfl rfl (Nle rfl) trivial ?_)
    refine VO.nil ?_
    refine VC.seq ?_
    refine VC.sr ?_
    refine VO.op rfl (OpE.buildSlice (zc := #[.string ⟨#[]⟩, .string ⟨#[]⟩, .string ⟨#[]⟩, .string ⟨#[]⟩, .string ⟨#[]⟩]) rfl hB rfl Tryz.underlying67 Tryz.sizeOf9 Tryz.zeroValue9 (by decide) (by decide) (by kernel_rfl) rfl rfl ?_)
    refine VO.le _ (Le.recast (t := 29) (y := avStrs keys5) rfl (fun w Z u h => Rep.strs (xs := keys5) rfl h)) ?_
    refine VO.val rfl rfl (OpV.len_im rfl Tryz.underlying67 rfl) ?_
    refine VO.mv rfl rfl rfl rfl ?_
    refine VO.nil ?_
    refine VC.block ?_
    refine VC.le _ (Le.nilRow 1 9) ?_
    refine VC.le _ (Le.front rfl) ?_
    refine VC.loopK [] trivial ({t : Option Addr × Nat × List ByteArray × Nat // t.2.2.2 ≤ 5 ∧ t.2.2.1.length ≤ t.2.2.2 ∧ ∀ x ∈ t.2.2.1, x.size ≤ 1000}) (fun (iZ : {t : Option Addr × Nat × List ByteArray × Nat // t.2.2.2 ≤ 5 ∧ t.2.2.1.length ≤ t.2.2.2 ∧ ∀ x ∈ t.2.2.1, x.size ≤ 1000}) => match iZ with | ⟨⟨b, c, can, r⟩, hr, hcl, hcs⟩ => [(0, sp p), (3, .v uo), (5, .v (.pointer (some ⟨g5, 0, none⟩))), (10, avI (n : Int)), (11, avI (q : Int)), (29, avStrs keys5), (30, avI 5), (31, avI (r : Int))]) (fun (iZ : {t : Option Addr × Nat × List ByteArray × Nat // t.2.2.2 ≤ 5 ∧ t.2.2.1.length ≤ t.2.2.2 ∧ ∀ x ∈ t.2.2.1, x.size ≤ 1000}) => match iZ with | ⟨⟨b, c, can, r⟩, hr, hcl, hcs⟩ => (.row (.slice b can.length c) can.length 1 (strsL can) 9 :: .box g5 ⟨[avS (mkKey q), avI r21, avI r24, avI r27, .v (.slice b can.length c)], 128, 5⟩ :: .row uo l.length 5 (rowL l) 128 :: l.map rowM)) (fun (iZ : {t : Option Addr × Nat × List ByteArray × Nat // t.2.2.2 ≤ 5 ∧ t.2.2.1.length ≤ t.2.2.2 ∧ ∀ x ∈ t.2.2.1, x.size ≤ 1000}) => match iZ with | ⟨⟨b, c, can, r⟩, hr, hcl, hcs⟩ => k + 1 + 8 * q + 3 + r) (fun (iZ : {t : Option Addr × Nat × List ByteArray × Nat // t.2.2.2 ≤ 5 ∧ t.2.2.1.length ≤ t.2.2.2 ∧ ∀ x ∈ t.2.2.1, x.size ≤ 1000}) => match iZ with | ⟨⟨b, c, can, r⟩, hr, hcl, hcs⟩ => 5 - r) ⟨(none, 0, [], 0), by decide, by decide, fun x h => by simp at h⟩ (Le.mkP hB ⟨rfl, rfl, rfl, rfl, rfl, rfl, rfl, rfl, trivial⟩ (List.Sublist.refl _) (List.Perm.refl _) (show k + 1 + 8 * q + 1 + 1 + 1 ≤ k + 1 + 8 * q + 3 + 0 by omega)) ?_
    rintro ⟨⟨b, c, can, r⟩, hr, hcl, hcs⟩
    show VC _ _ _ _ ⟨[(0, sp p), (3, .v uo), (5, .v (.pointer (some ⟨g5, 0, none⟩))), (10, avI (n : Int)), (11, avI (q : Int)), (29, avStrs keys5), (30, avI 5), (31, avI (r : Int))] ++ [], (.row (.slice b can.length c) can.length 1 (strsL can) 9 :: .box g5 ⟨[avS (mkKey q), avI r21, avI r24, avI r27, .v (.slice b can.length c)], 128, 5⟩ :: .row uo l.length 5 (rowL l) 128 :: l.map rowM), k + 1 + 8 * q + 3 + r⟩
    simp only at hr hcl hcs
    refine VC.sr ?_
    refine VO.val rfl rfl (OpV.lss rfl rfl rfl) ?_
    refine VO.nil ?_
    refine VC.seq ?_
    refine VC.cond rfl (fun aH2b => ?_) (fun aH2b => ?_)
    · have aH2 := aH2b
      try simp only [qqT, qqF, qqN, qqM, qqL, qqE] at aH2
      refine VC.skip ?_
      refine VC.seq ?_
      refine VC.block ?_
      refine VC.sr ?_
      refine VO.val rfl rfl (OpV.indexAddr_1 rfl Tryz.underlying67 Tryz.sizeOf9 rfl rfl rfl (by show _ < 5; omega)) ?_
      refine VO.val rfl rfl (OpV.load_at rfl hB OutW.no Tryz.isAgg9 rfl rfl) ?_
      refine VO.ma rfl rfl rfl rfl ?_
      refine VO.nil ?_
      refine VC.sr ?_
      refine VO.mv rfl rfl rfl rfl ?_
      refine VO.op rfl (OpE.callT' (k + 1 + 8 * q + 3 + r) rfl rfl hB rfl Tryz.call17 rfl ((flip_T (by omega))) (by omega) ?_)
      rintro _ ⟨r36, rfl⟩
      refine VO.val rfl rfl (OpV.not rfl rfl) ?_
      refine VO.nil ?_
      refine VC.cond rfl (fun aH3b => ?_) (fun aH3b => ?_)
      · have aH3 := aH3b
        try simp only [qqT, qqF, qqN, qqM, qqL, qqE] at aH3
        refine VC.region ?_
        refine VO.val rfl rfl (OpV.fieldAddrO 4 rfl Tryz.underlying128 rfl rfl Tryz.sizeOf67 rfl) ?_
        refine VO.val rfl rfl (OpV.load_own (i := 1) rfl hB Tryz.isAgg67 rfl rfl rfl (fun h => h)) ?_
        refine VO.mv rfl rfl rfl rfl ?_
        refine VO.op rfl (OpE.buildSlice (zc := #[.string ⟨#[]⟩]) rfl hB rfl Tryz.underlying67 Tryz.sizeOf9 Tryz.zeroValue9 (by decide) (by decide) (by kernel_rfl) rfl rfl ?_)
        refine VO.op rfl (OpE.append1S (i := 0) rfl hB rfl Tryz.underlying67 (infoOf Tryz.t9 1 (by kernel_rfl) rfl rfl) rfl (by decide) (by decide) rfl rfl rfl rfl (strsL_snoc _ _) (by omega) (fun _ _ => trivial) ?_)
        intro b2 c2
        refine VO.val rfl rfl (OpV.fieldAddrO 4 rfl Tryz.underlying128 rfl rfl Tryz.sizeOf67 rfl) ?_
        refine VO.op rfl (OpE.store (i := 1) rfl hB rfl Tryz.sizeOf67 rfl rfl rfl rfl rfl rfl (Nle rfl) trivial ?_)
        refine VO.nil ?_
        refine VC.region ?_
        refine VO.val rfl rfl (OpV.add rfl rfl rfl (by unfold fits; omega)) ?_
        refine VO.mv rfl rfl rfl rfl ?_
        refine VO.nil ?_
        exact Exists.intro (⟨(b2, c2, can ++ [keys5.getD r ByteArray.empty], r + 1), by show r + 1 ≤ 5; omega, by show (can ++ [_]).length ≤ r + 1; simp; omega, fun x hx => by rcases List.mem_append.1 hx with hx | hx; exact hcs x hx; (simp at hx; subst hx; exact keys5_size _)⟩) (And.intro (Le.mkP hB ⟨rfl, rfl, rfl, rfl, rfl, rfl, rfl, rfl, trivial⟩ (List.Sublist.refl _) (by dsimp only; first | exact List.Perm.refl _ | (rw [List.length_append]; exact List.Perm.refl _)) (show k + 1 + 8 * q + 3 + r + 1 ≤ k + 1 + 8 * q + 3 + (r + 1) by omega)) (by first | omega | (show _ < _; omega) | (simp only []; omega)))
      · have aH3 := aH3b
        try simp only [qqT, qqF, qqN, qqM, qqL, qqE] at aH3
        refine VC.skip ?_
        refine VC.region ?_
        refine VO.val rfl rfl (OpV.add rfl rfl rfl (by unfold fits; omega)) ?_
        refine VO.mv rfl rfl rfl rfl ?_
        refine VO.nil ?_
        exact Exists.intro (⟨(b, c, can, r + 1), by show r + 1 ≤ 5; omega, by show can.length ≤ r + 1; omega, hcs⟩) (And.intro (Le.mkP hB ⟨rfl, rfl, rfl, rfl, rfl, rfl, rfl, rfl, trivial⟩ (List.Sublist.refl _) (by dsimp only; first | exact List.Perm.refl _ | (rw [List.length_append]; exact List.Perm.refl _)) (show k + 1 + 8 * q + 3 + r + 1 ≤ k + 1 + 8 * q + 3 + (r + 1) by omega)) (by first | omega | (show _ < _; omega) | (simp only []; omega)))
    · have aH2 := aH2b
      try simp only [qqT, qqF, qqN, qqM, qqL, qqE] at aH2
      refine VC.exit ?_
      refine VC.region ?_
      refine VO.mv rfl rfl rfl rfl ?_
      refine VO.val rfl rfl (OpV.loadK_own (i := 1) rfl hB Tryz.isAgg128 Tryz.sizeOf128 rfl rfl rfl (fun h => h)) ?_
      refine VO.op rfl (OpE.buildSlice (zc := #[.string ⟨#[]⟩, .int .i64 0, .int .i64 0, .int .i64 0, .slice none 0 0]) rfl hB rfl Tryz.underlying102 Tryz.sizeOf128 Tryz.zeroValue128 (by decide) (by decide) (by kernel_rfl) rfl rfl ?_)
      refine VO.op rfl (OpE.append1 (i := 2) rfl hB rfl Tryz.underlying102 (infoOf Tryz.t128 5 (by kernel_rfl) rfl rfl) rfl (by decide) (by decide) rfl rfl rfl rfl (rowL_snoc l (⟨mkKey q, r21, r24, r27, b, c, can⟩ : MR)) (by omega) (fun _ _ => trivial) ?_)
      intro uo2
      refine VO.ma rfl rfl rfl rfl ?_
      refine VO.nil ?_
      refine VC.region ?_
      refine VO.val rfl rfl (OpV.add rfl rfl rfl (by unfold fits; omega)) ?_
      refine VO.mv rfl rfl rfl rfl ?_
      refine VO.nil ?_
      exact Exists.intro (⟨(uo2, l ++ [⟨mkKey q, r21, r24, r27, b, c, can⟩], q + 1), by show q + 1 ≤ n; omega, by show (l ++ [_]).length = q + 1; simp; omega, fun x hx => by rcases List.mem_append.1 hx with hx | hx; exact hok x hx; (simp at hx; subst hx; exact ⟨by have := encode_small (49 + (q : Int)); show (⟨#[109]⟩ ++ Utf8.encode (49 + (q : Int)) : ByteArray).size ≤ 1000; rw [ByteArray.size_append]; have h1 : (⟨#[109]⟩ : ByteArray).size = 1 := rfl; omega, by show can.length ≤ 5; omega, hcs⟩)⟩) (And.intro (Le.mkP hB ⟨rfl, rfl, rfl, rfl, trivial⟩ (hp1 := rowM ⟨mkKey q, r21, r24, r27, b, c, can⟩ :: .row uo2 (l.length + 1) 5 (rowL (l ++ [⟨mkKey q, r21, r24, r27, b, c, can⟩])) 128 :: l.map rowM) (List.Sublist.cons_cons _ (List.Sublist.cons _ (List.Sublist.refl _))) (by dsimp only; rw [List.length_append]; exact permM) (show k + 1 + 8 * q + 3 + r ≤ k + 1 + 8 * (q + 1) by omega)) (by first | omega | (show _ < _; omega) | (simp only []; omega)))
  · have aH1 := aH1b
    try simp only [qqT, qqF, qqN, qqM, qqL, qqE] at aH1
    refine VC.exit ?_
    refine VC.seq ?_
    refine VC.sr ?_
    refine VO.mv rfl rfl rfl rfl ?_
    refine VO.op rfl (OpE.callT' (k + 1 + 8 * q) rfl rfl hB rfl Tryz.call17 rfl ((flip_T (by omega))) (by omega) ?_)
    rintro _ ⟨r51, rfl⟩
    refine VO.nil ?_
    refine VC.cond rfl (fun aH4b => ?_) (fun aH4b => ?_)
    · have aH4 := aH4b
      try simp only [qqT, qqF, qqN, qqM, qqL, qqE] at aH4
      refine VC.seq ?_
      refine VC.asBox (i := 0) rfl (by omega) (fun g cap hu hcap hmx => ?_)
      subst hu
      refine VC.region ?_
      refine VO.mv rfl rfl rfl rfl ?_
      refine VO.mv rfl rfl rfl rfl ?_
      refine VO.mv rfl rfl rfl rfl ?_
      refine VO.val rfl rfl (OpV.len_v rfl Tryz.underlying102 rfl) ?_
      refine VO.op rfl (OpE.callT' (k + 1 + 8 * q + 1) rfl rfl hB rfl Tryz.call103 rfl ((next_T (by omega))) (by omega) ?_)
      rintro _ ⟨r56, hr56, rfl⟩
      obtain ⟨m, rfl⟩ : ∃ m : Nat, r56 = m := ⟨r56.toNat, by omega⟩
      refine VO.val rfl rfl (OpV.indexAddr_q rfl Tryz.underlying102 Tryz.sizeOf128 rfl rfl rfl (by omega)) ?_
      refine VO.ma rfl rfl rfl rfl ?_
      refine VO.nil ?_
      refine VC.sr ?_
      refine VO.mv rfl rfl rfl rfl ?_
      refine VO.op rfl (OpE.callT' (k + 1 + 8 * q + 1 + 1) rfl rfl hB rfl Tryz.call103 rfl ((next_T (by omega))) (by omega) ?_)
      rintro _ ⟨r59, hr59, rfl⟩
      refine VO.nil ?_
      refine VC.block ?_
      refine VC.sr ?_
      refine VO.val rfl rfl (OpV.eql rfl rfl rfl) ?_
      refine VO.ma rfl rfl rfl rfl ?_
      refine VO.nil ?_
      refine VC.cond rfl (fun aH5b => ?_) (fun aH5b => ?_)
      · have aH5 := aH5b
        try simp only [qqT, qqF, qqN, qqM, qqL, qqE] at aH5
        refine VC.draw (fun j b => (j = 14 ∧ b = g) ∨ (j = 17 ∧ b = g)) hB (by kernel_rfl) ?_
        refine VA.take (i := 0) rfl (by kernel_rfl) (by kernel_rfl) (by kernel_rfl) rfl rfl (OpV.move (.inl rfl) rfl) ?_
        refine VA.take (i := 1) rfl (by kernel_rfl) (by kernel_rfl) (by kernel_rfl) rfl rfl (OpV.move (.inl rfl) rfl) ?_
        refine VA.take (i := 2) rfl (by kernel_rfl) (by kernel_rfl) (by kernel_rfl) rfl rfl (OpV.move (.inl rfl) rfl) ?_
        refine VA.take (i := 5) rfl (by kernel_rfl) (by kernel_rfl) (by kernel_rfl) rfl rfl (OpV.move (.inl rfl) rfl) ?_
        refine VA.take (i := 6) rfl (by kernel_rfl) (by kernel_rfl) (by kernel_rfl) rfl rfl (OpV.move (.inl rfl) rfl) ?_
        refine VA.take (i := 7) rfl (by kernel_rfl) (by kernel_rfl) (by kernel_rfl) rfl rfl (OpV.nilCheck rfl rfl) ?_
        refine VA.take (i := 8) rfl (by kernel_rfl) (by kernel_rfl) (by kernel_rfl) rfl rfl (OpV.fieldAddrO 3 rfl Tryz.underlying128 rfl rfl Tryz.sizeOf3 rfl) ?_
        refine VA.take (i := 9) rfl (by kernel_rfl) (by kernel_rfl) (by kernel_rfl) rfl rfl (OpV.load_own (i := 0) rfl hB Tryz.isAgg3 rfl rfl (rowL_at rfl (by omega) (by decide)) (by first | exact Wi.not1 (by kernel_rfl) | exact Wi.not2 (by kernel_rfl) (by kernel_rfl) | exact Wi.notX (by kernel_rfl))) ?_
        refine VA.all (rs := [3, 10]) (by kernel_rfl) (by decide) ?_
        refine ⟨⟨_, rfl, .inl rfl, ?_⟩, ⟨_, rfl, .inl rfl, ?_⟩, trivial⟩
        ·
          refine OpE.buildSlice (zc := #[.string ⟨#[]⟩, .string ⟨#[]⟩, .string ⟨#[]⟩]) rfl hB rfl Tryz.underlying67 Tryz.sizeOf9 Tryz.zeroValue9 (by decide) (by decide) (by kernel_rfl) rfl rfl ?_
          refine VA.all (rs := [4, 10]) (by kernel_rfl) (by decide) ?_
          refine ⟨⟨_, rfl, .inl rfl, ?_⟩, ⟨_, rfl, .inl rfl, ?_⟩, trivial⟩
          ·
            refine OpE.callT' (k + 1 + 8 * q + 1 + 1 + 1) rfl rfl hB rfl Tryz.call16 rfl (some_T 1000 (by rfl) (by decide) (by decide) (by repeat (first | exact AllS.nil | refine AllS.cons (by decide) ?_))) (by omega) ?_
            rintro _ ⟨r78, hr78, rfl⟩
            refine VA.all (rs := [10]) (by kernel_rfl) (by decide) ?_
            refine ⟨⟨_, rfl, .inl rfl, ?_⟩, trivial⟩
            refine OpE.buildSlice (zc := #[.int .i64 0, .int .i64 0, .int .i64 0]) rfl hB rfl Tryz.underlying22 Tryz.sizeOf3 Tryz.zeroValue3 (by decide) (by decide) (by kernel_rfl) rfl rfl ?_
            refine VA.all (rs := [11]) (by kernel_rfl) (by decide) ?_
            refine ⟨⟨_, rfl, .inl rfl, ?_⟩, trivial⟩
            refine OpE.callT' (k + 1 + 8 * q + 1 + 1 + 1 + 1) rfl rfl hB rfl Tryz.call15 rfl (pick_X (by rfl) (by decide) (by decide) (by repeat (first | exact AllX.nil | refine AllX.cons ?_))) (by omega) ?_
            rintro _ ⟨r85, rfl⟩
            refine VA.take (i := 12) rfl (by kernel_rfl) (by kernel_rfl) (by kernel_rfl) rfl rfl (OpV.nilCheck rfl rfl) ?_
            refine VA.take (i := 13) rfl (by kernel_rfl) (by kernel_rfl) (by kernel_rfl) rfl rfl (OpV.fieldAddrO 0 rfl Tryz.underlying128 rfl rfl Tryz.sizeOf9 rfl) ?_
            refine VA.all (rs := [14]) (by kernel_rfl) (by decide) ?_
            refine ⟨⟨_, rfl, .inl rfl, ?_⟩, trivial⟩
            refine OpE.store1 (i := 0) rfl hB rfl Tryz.sizeOf9 rfl rfl rfl rfl rfl rfl (rowL_in rfl (by omega) (by decide)) (rowL_set (x := ({l.getD m default with key := r78} : MR)) rfl (by omega) (by decide) rfl (ne5_0 rfl rfl rfl rfl)) (by first | exact ⟨rfl, rfl⟩ | exact .inl ⟨rfl, rfl⟩ | exact .inr ⟨rfl, rfl⟩ | exact ⟨rfl, trivial⟩ | exact .inl ⟨rfl, trivial⟩ | exact .inr ⟨rfl, trivial⟩ | exact ⟨by decide, rfl⟩) ?_
            refine VA.take (i := 15) rfl (by kernel_rfl) (by kernel_rfl) (by kernel_rfl) rfl rfl (OpV.nilCheck rfl rfl) ?_
            refine VA.take (i := 16) rfl (by kernel_rfl) (by kernel_rfl) (by kernel_rfl) rfl rfl (OpV.fieldAddrO 3 rfl Tryz.underlying128 rfl rfl Tryz.sizeOf3 rfl) ?_
            refine VA.all (rs := [17]) (by kernel_rfl) (by decide) ?_
            refine ⟨⟨_, rfl, .inl rfl, ?_⟩, trivial⟩
            refine OpE.store1 (i := 0) rfl hB rfl Tryz.sizeOf3 rfl rfl rfl rfl rfl rfl (rowL_in rfl (by rw [List.length_set]; omega) (by decide)) (rowL_set (x := ({l.getD m default with key := r78, feeders := r85} : MR)) rfl (by rw [List.length_set]; omega) (by decide) rfl (by rw [getD_set_self (by omega)]; exact ne5_3 rfl rfl rfl rfl)) (by first | exact ⟨rfl, rfl⟩ | exact .inl ⟨rfl, rfl⟩ | exact .inr ⟨rfl, rfl⟩ | exact ⟨rfl, trivial⟩ | exact .inl ⟨rfl, trivial⟩ | exact .inr ⟨rfl, trivial⟩ | exact ⟨by decide, rfl⟩) ?_
            refine VA.done (by kernel_rfl) ?_
            refine VC.sr ?_
            refine VO.mv rfl rfl rfl rfl ?_
            refine VO.ma rfl rfl rfl rfl ?_
            refine VO.nil ?_
            refine VC.le _ (Le.fam (t := 2) (l := (l.set m {l.getD m default with key := r78}).set m {l.getD m default with key := r78, feeders := r85}) hB hnew rfl (by simp) (.inr ⟨_, _, _, _, rfl, hcap, hmx, rfl⟩) (fun q hq => famAt' ((famSet (by rw [List.length_set]; omega) (by rw [getD_set_self (by omega)]; rfl)).trans (famSet (by omega) rfl)) hq)) ?_
            refine VC.ret ?_
            exact Exists.intro _ (And.intro (RetV.one Tryz.results66 (ResV.tmp rfl)) (And.intro (by first | exact ⟨_, ⟨MRok.small (by omega) (fun x hx => (hok x hx).six), by rw [List.length_map]; omega, by rw [List.length_map]; omega⟩, rfl⟩ | exact ⟨_, ⟨MRok.small (by simp; omega) (by rw [List.set_set]; exact MRok.set hok ⟨hr78, (MRok.getD hok (m := m) (by omega)).six.2⟩), by simp; omega, by simp; omega⟩, rfl⟩ | exact ⟨_, ⟨MRok.small (by simp; omega) (by rw [List.set_set]; exact MRok.set hok ⟨(MRok.getD hok (m := m) (by omega)).1, (MRok.getD hok (m := m) (by omega)).six.2⟩), by simp; omega, by simp; omega⟩, rfl⟩ | exact ⟨(l.set m {l.getD m default with b := b3, c := c3, can := (l.getD m default).can ++ [r67]}).map toM, ⟨MRok.small (by simp; omega) (MRok.set hok (m := m) (x := {l.getD m default with b := b3, c := c3, can := (l.getD m default).can ++ [r67]}) ⟨(MRok.getD hok (m := m) (by omega)).1, by show ((l.getD m default).can ++ [r67]).length ≤ 6; have := (MRok.getD hok (m := m) (by omega)).2.1; rw [List.length_append, List.length_singleton]; omega, fun y hy => by rcases List.mem_append.1 (show y ∈ (l.getD m default).can ++ [r67] from hy) with hy | hy; exact (MRok.getD hok (m := m) (by omega)).2.2 y hy; (rw [List.mem_singleton] at hy; subst hy; exact hr67)⟩), by simp; omega, by simp; omega⟩, rfl⟩) ((show k + 1 + 8 * q + 1 + 1 + 1 + 1 + 1 ≤ k + 60 by omega))))
          ·
            refine OpE.buildSlice (zc := #[.int .i64 0, .int .i64 0, .int .i64 0]) rfl hB rfl Tryz.underlying22 Tryz.sizeOf3 Tryz.zeroValue3 (by decide) (by decide) (by kernel_rfl) rfl rfl ?_
            refine VA.all (rs := [4]) (by kernel_rfl) (by decide) ?_
            refine ⟨⟨_, rfl, .inl rfl, ?_⟩, trivial⟩
            refine OpE.callT' (k + 1 + 8 * q + 1 + 1 + 1) rfl rfl hB rfl Tryz.call16 rfl (some_T 1000 (by rfl) (by decide) (by decide) (by repeat (first | exact AllS.nil | refine AllS.cons (by decide) ?_))) (by omega) ?_
            rintro _ ⟨r78, hr78, rfl⟩
            refine VA.all (rs := [11]) (by kernel_rfl) (by decide) ?_
            refine ⟨⟨_, rfl, .inl rfl, ?_⟩, trivial⟩
            refine OpE.callT' (k + 1 + 8 * q + 1 + 1 + 1 + 1) rfl rfl hB rfl Tryz.call15 rfl (pick_X (by rfl) (by decide) (by decide) (by repeat (first | exact AllX.nil | refine AllX.cons ?_))) (by omega) ?_
            rintro _ ⟨r85, rfl⟩
            refine VA.take (i := 12) rfl (by kernel_rfl) (by kernel_rfl) (by kernel_rfl) rfl rfl (OpV.nilCheck rfl rfl) ?_
            refine VA.take (i := 13) rfl (by kernel_rfl) (by kernel_rfl) (by kernel_rfl) rfl rfl (OpV.fieldAddrO 0 rfl Tryz.underlying128 rfl rfl Tryz.sizeOf9 rfl) ?_
            refine VA.all (rs := [14]) (by kernel_rfl) (by decide) ?_
            refine ⟨⟨_, rfl, .inl rfl, ?_⟩, trivial⟩
            refine OpE.store1 (i := 0) rfl hB rfl Tryz.sizeOf9 rfl rfl rfl rfl rfl rfl (rowL_in rfl (by omega) (by decide)) (rowL_set (x := ({l.getD m default with key := r78} : MR)) rfl (by omega) (by decide) rfl (ne5_0 rfl rfl rfl rfl)) (by first | exact ⟨rfl, rfl⟩ | exact .inl ⟨rfl, rfl⟩ | exact .inr ⟨rfl, rfl⟩ | exact ⟨rfl, trivial⟩ | exact .inl ⟨rfl, trivial⟩ | exact .inr ⟨rfl, trivial⟩ | exact ⟨by decide, rfl⟩) ?_
            refine VA.take (i := 15) rfl (by kernel_rfl) (by kernel_rfl) (by kernel_rfl) rfl rfl (OpV.nilCheck rfl rfl) ?_
            refine VA.take (i := 16) rfl (by kernel_rfl) (by kernel_rfl) (by kernel_rfl) rfl rfl (OpV.fieldAddrO 3 rfl Tryz.underlying128 rfl rfl Tryz.sizeOf3 rfl) ?_
            refine VA.all (rs := [17]) (by kernel_rfl) (by decide) ?_
            refine ⟨⟨_, rfl, .inl rfl, ?_⟩, trivial⟩
            refine OpE.store1 (i := 0) rfl hB rfl Tryz.sizeOf3 rfl rfl rfl rfl rfl rfl (rowL_in rfl (by rw [List.length_set]; omega) (by decide)) (rowL_set (x := ({l.getD m default with key := r78, feeders := r85} : MR)) rfl (by rw [List.length_set]; omega) (by decide) rfl (by rw [getD_set_self (by omega)]; exact ne5_3 rfl rfl rfl rfl)) (by first | exact ⟨rfl, rfl⟩ | exact .inl ⟨rfl, rfl⟩ | exact .inr ⟨rfl, rfl⟩ | exact ⟨rfl, trivial⟩ | exact .inl ⟨rfl, trivial⟩ | exact .inr ⟨rfl, trivial⟩ | exact ⟨by decide, rfl⟩) ?_
            refine VA.done (by kernel_rfl) ?_
            refine VC.sr ?_
            refine VO.mv rfl rfl rfl rfl ?_
            refine VO.ma rfl rfl rfl rfl ?_
            refine VO.nil ?_
            refine VC.le _ (Le.fam (t := 2) (l := (l.set m {l.getD m default with key := r78}).set m {l.getD m default with key := r78, feeders := r85}) hB hnew rfl (by simp) (.inr ⟨_, _, _, _, rfl, hcap, hmx, rfl⟩) (fun q hq => famAt' ((famSet (by rw [List.length_set]; omega) (by rw [getD_set_self (by omega)]; rfl)).trans (famSet (by omega) rfl)) hq)) ?_
            refine VC.ret ?_
            exact Exists.intro _ (And.intro (RetV.one Tryz.results66 (ResV.tmp rfl)) (And.intro (by first | exact ⟨_, ⟨MRok.small (by omega) (fun x hx => (hok x hx).six), by rw [List.length_map]; omega, by rw [List.length_map]; omega⟩, rfl⟩ | exact ⟨_, ⟨MRok.small (by simp; omega) (by rw [List.set_set]; exact MRok.set hok ⟨hr78, (MRok.getD hok (m := m) (by omega)).six.2⟩), by simp; omega, by simp; omega⟩, rfl⟩ | exact ⟨_, ⟨MRok.small (by simp; omega) (by rw [List.set_set]; exact MRok.set hok ⟨(MRok.getD hok (m := m) (by omega)).1, (MRok.getD hok (m := m) (by omega)).six.2⟩), by simp; omega, by simp; omega⟩, rfl⟩ | exact ⟨(l.set m {l.getD m default with b := b3, c := c3, can := (l.getD m default).can ++ [r67]}).map toM, ⟨MRok.small (by simp; omega) (MRok.set hok (m := m) (x := {l.getD m default with b := b3, c := c3, can := (l.getD m default).can ++ [r67]}) ⟨(MRok.getD hok (m := m) (by omega)).1, by show ((l.getD m default).can ++ [r67]).length ≤ 6; have := (MRok.getD hok (m := m) (by omega)).2.1; rw [List.length_append, List.length_singleton]; omega, fun y hy => by rcases List.mem_append.1 (show y ∈ (l.getD m default).can ++ [r67] from hy) with hy | hy; exact (MRok.getD hok (m := m) (by omega)).2.2 y hy; (rw [List.mem_singleton] at hy; subst hy; exact hr67)⟩), by simp; omega, by simp; omega⟩, rfl⟩) ((show k + 1 + 8 * q + 1 + 1 + 1 + 1 + 1 ≤ k + 60 by omega))))
        ·
          refine OpE.buildSlice (zc := #[.int .i64 0, .int .i64 0, .int .i64 0]) rfl hB rfl Tryz.underlying22 Tryz.sizeOf3 Tryz.zeroValue3 (by decide) (by decide) (by kernel_rfl) rfl rfl ?_
          refine VA.all (rs := [3]) (by kernel_rfl) (by decide) ?_
          refine ⟨⟨_, rfl, .inl rfl, ?_⟩, trivial⟩
          refine OpE.buildSlice (zc := #[.string ⟨#[]⟩, .string ⟨#[]⟩, .string ⟨#[]⟩]) rfl hB rfl Tryz.underlying67 Tryz.sizeOf9 Tryz.zeroValue9 (by decide) (by decide) (by kernel_rfl) rfl rfl ?_
          refine VA.all (rs := [4]) (by kernel_rfl) (by decide) ?_
          refine ⟨⟨_, rfl, .inl rfl, ?_⟩, trivial⟩
          refine OpE.callT' (k + 1 + 8 * q + 1 + 1 + 1) rfl rfl hB rfl Tryz.call16 rfl (some_T 1000 (by rfl) (by decide) (by decide) (by repeat (first | exact AllS.nil | refine AllS.cons (by decide) ?_))) (by omega) ?_
          rintro _ ⟨r78, hr78, rfl⟩
          refine VA.all (rs := [11]) (by kernel_rfl) (by decide) ?_
          refine ⟨⟨_, rfl, .inl rfl, ?_⟩, trivial⟩
          refine OpE.callT' (k + 1 + 8 * q + 1 + 1 + 1 + 1) rfl rfl hB rfl Tryz.call15 rfl (pick_X (by rfl) (by decide) (by decide) (by repeat (first | exact AllX.nil | refine AllX.cons ?_))) (by omega) ?_
          rintro _ ⟨r85, rfl⟩
          refine VA.take (i := 12) rfl (by kernel_rfl) (by kernel_rfl) (by kernel_rfl) rfl rfl (OpV.nilCheck rfl rfl) ?_
          refine VA.take (i := 13) rfl (by kernel_rfl) (by kernel_rfl) (by kernel_rfl) rfl rfl (OpV.fieldAddrO 0 rfl Tryz.underlying128 rfl rfl Tryz.sizeOf9 rfl) ?_
          refine VA.all (rs := [14]) (by kernel_rfl) (by decide) ?_
          refine ⟨⟨_, rfl, .inl rfl, ?_⟩, trivial⟩
          refine OpE.store1 (i := 0) rfl hB rfl Tryz.sizeOf9 rfl rfl rfl rfl rfl rfl (rowL_in rfl (by omega) (by decide)) (rowL_set (x := ({l.getD m default with key := r78} : MR)) rfl (by omega) (by decide) rfl (ne5_0 rfl rfl rfl rfl)) (by first | exact ⟨rfl, rfl⟩ | exact .inl ⟨rfl, rfl⟩ | exact .inr ⟨rfl, rfl⟩ | exact ⟨rfl, trivial⟩ | exact .inl ⟨rfl, trivial⟩ | exact .inr ⟨rfl, trivial⟩ | exact ⟨by decide, rfl⟩) ?_
          refine VA.take (i := 15) rfl (by kernel_rfl) (by kernel_rfl) (by kernel_rfl) rfl rfl (OpV.nilCheck rfl rfl) ?_
          refine VA.take (i := 16) rfl (by kernel_rfl) (by kernel_rfl) (by kernel_rfl) rfl rfl (OpV.fieldAddrO 3 rfl Tryz.underlying128 rfl rfl Tryz.sizeOf3 rfl) ?_
          refine VA.all (rs := [17]) (by kernel_rfl) (by decide) ?_
          refine ⟨⟨_, rfl, .inl rfl, ?_⟩, trivial⟩
          refine OpE.store1 (i := 0) rfl hB rfl Tryz.sizeOf3 rfl rfl rfl rfl rfl rfl (rowL_in rfl (by rw [List.length_set]; omega) (by decide)) (rowL_set (x := ({l.getD m default with key := r78, feeders := r85} : MR)) rfl (by rw [List.length_set]; omega) (by decide) rfl (by rw [getD_set_self (by omega)]; exact ne5_3 rfl rfl rfl rfl)) (by first | exact ⟨rfl, rfl⟩ | exact .inl ⟨rfl, rfl⟩ | exact .inr ⟨rfl, rfl⟩ | exact ⟨rfl, trivial⟩ | exact .inl ⟨rfl, trivial⟩ | exact .inr ⟨rfl, trivial⟩ | exact ⟨by decide, rfl⟩) ?_
          refine VA.done (by kernel_rfl) ?_
          refine VC.sr ?_
          refine VO.mv rfl rfl rfl rfl ?_
          refine VO.ma rfl rfl rfl rfl ?_
          refine VO.nil ?_
          refine VC.le _ (Le.fam (t := 2) (l := (l.set m {l.getD m default with key := r78}).set m {l.getD m default with key := r78, feeders := r85}) hB hnew rfl (by simp) (.inr ⟨_, _, _, _, rfl, hcap, hmx, rfl⟩) (fun q hq => famAt' ((famSet (by rw [List.length_set]; omega) (by rw [getD_set_self (by omega)]; rfl)).trans (famSet (by omega) rfl)) hq)) ?_
          refine VC.ret ?_
          exact Exists.intro _ (And.intro (RetV.one Tryz.results66 (ResV.tmp rfl)) (And.intro (by first | exact ⟨_, ⟨MRok.small (by omega) (fun x hx => (hok x hx).six), by rw [List.length_map]; omega, by rw [List.length_map]; omega⟩, rfl⟩ | exact ⟨_, ⟨MRok.small (by simp; omega) (by rw [List.set_set]; exact MRok.set hok ⟨hr78, (MRok.getD hok (m := m) (by omega)).six.2⟩), by simp; omega, by simp; omega⟩, rfl⟩ | exact ⟨_, ⟨MRok.small (by simp; omega) (by rw [List.set_set]; exact MRok.set hok ⟨(MRok.getD hok (m := m) (by omega)).1, (MRok.getD hok (m := m) (by omega)).six.2⟩), by simp; omega, by simp; omega⟩, rfl⟩ | exact ⟨(l.set m {l.getD m default with b := b3, c := c3, can := (l.getD m default).can ++ [r67]}).map toM, ⟨MRok.small (by simp; omega) (MRok.set hok (m := m) (x := {l.getD m default with b := b3, c := c3, can := (l.getD m default).can ++ [r67]}) ⟨(MRok.getD hok (m := m) (by omega)).1, by show ((l.getD m default).can ++ [r67]).length ≤ 6; have := (MRok.getD hok (m := m) (by omega)).2.1; rw [List.length_append, List.length_singleton]; omega, fun y hy => by rcases List.mem_append.1 (show y ∈ (l.getD m default).can ++ [r67] from hy) with hy | hy; exact (MRok.getD hok (m := m) (by omega)).2.2 y hy; (rw [List.mem_singleton] at hy; subst hy; exact hr67)⟩), by simp; omega, by simp; omega⟩, rfl⟩) ((show k + 1 + 8 * q + 1 + 1 + 1 + 1 + 1 ≤ k + 60 by omega))))
      · have aH5 := aH5b
        try simp only [qqT, qqF, qqN, qqM, qqL, qqE] at aH5
        refine VC.sr ?_
        refine VO.val rfl rfl (OpV.eql rfl rfl rfl) ?_
        refine VO.ma rfl rfl rfl rfl ?_
        refine VO.nil ?_
        refine VC.cond rfl (fun aH6b => ?_) (fun aH6b => ?_)
        · have aH6 := aH6b
          try simp only [qqT, qqF, qqN, qqM, qqL, qqE] at aH6
          refine VC.draw (fun j b => (j = 14 ∧ b = g) ∨ (j = 17 ∧ b = g)) hB (by kernel_rfl) ?_
          refine VA.take (i := 0) rfl (by kernel_rfl) (by kernel_rfl) (by kernel_rfl) rfl rfl (OpV.move (.inl rfl) rfl) ?_
          refine VA.take (i := 1) rfl (by kernel_rfl) (by kernel_rfl) (by kernel_rfl) rfl rfl (OpV.move (.inl rfl) rfl) ?_
          refine VA.take (i := 2) rfl (by kernel_rfl) (by kernel_rfl) (by kernel_rfl) rfl rfl (OpV.move (.inl rfl) rfl) ?_
          refine VA.take (i := 5) rfl (by kernel_rfl) (by kernel_rfl) (by kernel_rfl) rfl rfl (OpV.move (.inl rfl) rfl) ?_
          refine VA.take (i := 6) rfl (by kernel_rfl) (by kernel_rfl) (by kernel_rfl) rfl rfl (OpV.move (.inl rfl) rfl) ?_
          refine VA.take (i := 7) rfl (by kernel_rfl) (by kernel_rfl) (by kernel_rfl) rfl rfl (OpV.nilCheck rfl rfl) ?_
          refine VA.take (i := 8) rfl (by kernel_rfl) (by kernel_rfl) (by kernel_rfl) rfl rfl (OpV.fieldAddrO 2 rfl Tryz.underlying128 rfl rfl Tryz.sizeOf3 rfl) ?_
          refine VA.take (i := 9) rfl (by kernel_rfl) (by kernel_rfl) (by kernel_rfl) rfl rfl (OpV.load_own (i := 0) rfl hB Tryz.isAgg3 rfl rfl (rowL_at rfl (by omega) (by decide)) (by first | exact Wi.not1 (by kernel_rfl) | exact Wi.not2 (by kernel_rfl) (by kernel_rfl) | exact Wi.notX (by kernel_rfl))) ?_
          refine VA.all (rs := [3, 10]) (by kernel_rfl) (by decide) ?_
          refine ⟨⟨_, rfl, .inl rfl, ?_⟩, ⟨_, rfl, .inl rfl, ?_⟩, trivial⟩
          ·
            refine OpE.buildSlice (zc := #[.int .i64 0, .int .i64 0, .int .i64 0]) rfl hB rfl Tryz.underlying22 Tryz.sizeOf3 Tryz.zeroValue3 (by decide) (by decide) (by kernel_rfl) rfl rfl ?_
            refine VA.all (rs := [4, 10]) (by kernel_rfl) (by decide) ?_
            refine ⟨⟨_, rfl, .inl rfl, ?_⟩, ⟨_, rfl, .inl rfl, ?_⟩, trivial⟩
            ·
              refine OpE.callT' (k + 1 + 8 * q + 1 + 1 + 1) rfl rfl hB rfl Tryz.call15 rfl (pick_X (by rfl) (by decide) (by decide) (by repeat (first | exact AllX.nil | refine AllX.cons ?_))) (by omega) ?_
              rintro _ ⟨r96, rfl⟩
              refine VA.all (rs := [10]) (by kernel_rfl) (by decide) ?_
              refine ⟨⟨_, rfl, .inl rfl, ?_⟩, trivial⟩
              refine OpE.buildSlice (zc := #[.int .i64 0, .int .i64 0, .int .i64 0]) rfl hB rfl Tryz.underlying22 Tryz.sizeOf3 Tryz.zeroValue3 (by decide) (by decide) (by kernel_rfl) rfl rfl ?_
              refine VA.all (rs := [11]) (by kernel_rfl) (by decide) ?_
              refine ⟨⟨_, rfl, .inl rfl, ?_⟩, trivial⟩
              refine OpE.callT' (k + 1 + 8 * q + 1 + 1 + 1 + 1) rfl rfl hB rfl Tryz.call15 rfl (pick_X (by rfl) (by decide) (by decide) (by repeat (first | exact AllX.nil | refine AllX.cons ?_))) (by omega) ?_
              rintro _ ⟨r103, rfl⟩
              refine VA.take (i := 12) rfl (by kernel_rfl) (by kernel_rfl) (by kernel_rfl) rfl rfl (OpV.nilCheck rfl rfl) ?_
              refine VA.take (i := 13) rfl (by kernel_rfl) (by kernel_rfl) (by kernel_rfl) rfl rfl (OpV.fieldAddrO 1 rfl Tryz.underlying128 rfl rfl Tryz.sizeOf3 rfl) ?_
              refine VA.all (rs := [14]) (by kernel_rfl) (by decide) ?_
              refine ⟨⟨_, rfl, .inl rfl, ?_⟩, trivial⟩
              refine OpE.store1 (i := 0) rfl hB rfl Tryz.sizeOf3 rfl rfl rfl rfl rfl rfl (rowL_in rfl (by omega) (by decide)) (rowL_set (x := ({l.getD m default with each := r96} : MR)) rfl (by omega) (by decide) rfl (ne5_1 rfl rfl rfl rfl)) (by first | exact ⟨rfl, rfl⟩ | exact .inl ⟨rfl, rfl⟩ | exact .inr ⟨rfl, rfl⟩ | exact ⟨rfl, trivial⟩ | exact .inl ⟨rfl, trivial⟩ | exact .inr ⟨rfl, trivial⟩ | exact ⟨by decide, rfl⟩) ?_
              refine VA.take (i := 15) rfl (by kernel_rfl) (by kernel_rfl) (by kernel_rfl) rfl rfl (OpV.nilCheck rfl rfl) ?_
              refine VA.take (i := 16) rfl (by kernel_rfl) (by kernel_rfl) (by kernel_rfl) rfl rfl (OpV.fieldAddrO 2 rfl Tryz.underlying128 rfl rfl Tryz.sizeOf3 rfl) ?_
              refine VA.all (rs := [17]) (by kernel_rfl) (by decide) ?_
              refine ⟨⟨_, rfl, .inl rfl, ?_⟩, trivial⟩
              refine OpE.store1 (i := 0) rfl hB rfl Tryz.sizeOf3 rfl rfl rfl rfl rfl rfl (rowL_in rfl (by rw [List.length_set]; omega) (by decide)) (rowL_set (x := ({l.getD m default with each := r96, fixed := r103} : MR)) rfl (by rw [List.length_set]; omega) (by decide) rfl (by rw [getD_set_self (by omega)]; exact ne5_2 rfl rfl rfl rfl)) (by first | exact ⟨rfl, rfl⟩ | exact .inl ⟨rfl, rfl⟩ | exact .inr ⟨rfl, rfl⟩ | exact ⟨rfl, trivial⟩ | exact .inl ⟨rfl, trivial⟩ | exact .inr ⟨rfl, trivial⟩ | exact ⟨by decide, rfl⟩) ?_
              refine VA.done (by kernel_rfl) ?_
              refine VC.sr ?_
              refine VO.mv rfl rfl rfl rfl ?_
              refine VO.ma rfl rfl rfl rfl ?_
              refine VO.nil ?_
              refine VC.le _ (Le.fam (t := 2) (l := (l.set m {l.getD m default with each := r96}).set m {l.getD m default with each := r96, fixed := r103}) hB hnew rfl (by simp) (.inr ⟨_, _, _, _, rfl, hcap, hmx, rfl⟩) (fun q hq => famAt' ((famSet (by rw [List.length_set]; omega) (by rw [getD_set_self (by omega)]; rfl)).trans (famSet (by omega) rfl)) hq)) ?_
              refine VC.ret ?_
              exact Exists.intro _ (And.intro (RetV.one Tryz.results66 (ResV.tmp rfl)) (And.intro (by first | exact ⟨_, ⟨MRok.small (by omega) (fun x hx => (hok x hx).six), by rw [List.length_map]; omega, by rw [List.length_map]; omega⟩, rfl⟩ | exact ⟨_, ⟨MRok.small (by simp; omega) (by rw [List.set_set]; exact MRok.set hok ⟨hr78, (MRok.getD hok (m := m) (by omega)).six.2⟩), by simp; omega, by simp; omega⟩, rfl⟩ | exact ⟨_, ⟨MRok.small (by simp; omega) (by rw [List.set_set]; exact MRok.set hok ⟨(MRok.getD hok (m := m) (by omega)).1, (MRok.getD hok (m := m) (by omega)).six.2⟩), by simp; omega, by simp; omega⟩, rfl⟩ | exact ⟨(l.set m {l.getD m default with b := b3, c := c3, can := (l.getD m default).can ++ [r67]}).map toM, ⟨MRok.small (by simp; omega) (MRok.set hok (m := m) (x := {l.getD m default with b := b3, c := c3, can := (l.getD m default).can ++ [r67]}) ⟨(MRok.getD hok (m := m) (by omega)).1, by show ((l.getD m default).can ++ [r67]).length ≤ 6; have := (MRok.getD hok (m := m) (by omega)).2.1; rw [List.length_append, List.length_singleton]; omega, fun y hy => by rcases List.mem_append.1 (show y ∈ (l.getD m default).can ++ [r67] from hy) with hy | hy; exact (MRok.getD hok (m := m) (by omega)).2.2 y hy; (rw [List.mem_singleton] at hy; subst hy; exact hr67)⟩), by simp; omega, by simp; omega⟩, rfl⟩) ((show k + 1 + 8 * q + 1 + 1 + 1 + 1 + 1 ≤ k + 60 by omega))))
            ·
              refine OpE.buildSlice (zc := #[.int .i64 0, .int .i64 0, .int .i64 0]) rfl hB rfl Tryz.underlying22 Tryz.sizeOf3 Tryz.zeroValue3 (by decide) (by decide) (by kernel_rfl) rfl rfl ?_
              refine VA.all (rs := [4]) (by kernel_rfl) (by decide) ?_
              refine ⟨⟨_, rfl, .inl rfl, ?_⟩, trivial⟩
              refine OpE.callT' (k + 1 + 8 * q + 1 + 1 + 1) rfl rfl hB rfl Tryz.call15 rfl (pick_X (by rfl) (by decide) (by decide) (by repeat (first | exact AllX.nil | refine AllX.cons ?_))) (by omega) ?_
              rintro _ ⟨r96, rfl⟩
              refine VA.all (rs := [11]) (by kernel_rfl) (by decide) ?_
              refine ⟨⟨_, rfl, .inl rfl, ?_⟩, trivial⟩
              refine OpE.callT' (k + 1 + 8 * q + 1 + 1 + 1 + 1) rfl rfl hB rfl Tryz.call15 rfl (pick_X (by rfl) (by decide) (by decide) (by repeat (first | exact AllX.nil | refine AllX.cons ?_))) (by omega) ?_
              rintro _ ⟨r103, rfl⟩
              refine VA.take (i := 12) rfl (by kernel_rfl) (by kernel_rfl) (by kernel_rfl) rfl rfl (OpV.nilCheck rfl rfl) ?_
              refine VA.take (i := 13) rfl (by kernel_rfl) (by kernel_rfl) (by kernel_rfl) rfl rfl (OpV.fieldAddrO 1 rfl Tryz.underlying128 rfl rfl Tryz.sizeOf3 rfl) ?_
              refine VA.all (rs := [14]) (by kernel_rfl) (by decide) ?_
              refine ⟨⟨_, rfl, .inl rfl, ?_⟩, trivial⟩
              refine OpE.store1 (i := 0) rfl hB rfl Tryz.sizeOf3 rfl rfl rfl rfl rfl rfl (rowL_in rfl (by omega) (by decide)) (rowL_set (x := ({l.getD m default with each := r96} : MR)) rfl (by omega) (by decide) rfl (ne5_1 rfl rfl rfl rfl)) (by first | exact ⟨rfl, rfl⟩ | exact .inl ⟨rfl, rfl⟩ | exact .inr ⟨rfl, rfl⟩ | exact ⟨rfl, trivial⟩ | exact .inl ⟨rfl, trivial⟩ | exact .inr ⟨rfl, trivial⟩ | exact ⟨by decide, rfl⟩) ?_
              refine VA.take (i := 15) rfl (by kernel_rfl) (by kernel_rfl) (by kernel_rfl) rfl rfl (OpV.nilCheck rfl rfl) ?_
              refine VA.take (i := 16) rfl (by kernel_rfl) (by kernel_rfl) (by kernel_rfl) rfl rfl (OpV.fieldAddrO 2 rfl Tryz.underlying128 rfl rfl Tryz.sizeOf3 rfl) ?_
              refine VA.all (rs := [17]) (by kernel_rfl) (by decide) ?_
              refine ⟨⟨_, rfl, .inl rfl, ?_⟩, trivial⟩
              refine OpE.store1 (i := 0) rfl hB rfl Tryz.sizeOf3 rfl rfl rfl rfl rfl rfl (rowL_in rfl (by rw [List.length_set]; omega) (by decide)) (rowL_set (x := ({l.getD m default with each := r96, fixed := r103} : MR)) rfl (by rw [List.length_set]; omega) (by decide) rfl (by rw [getD_set_self (by omega)]; exact ne5_2 rfl rfl rfl rfl)) (by first | exact ⟨rfl, rfl⟩ | exact .inl ⟨rfl, rfl⟩ | exact .inr ⟨rfl, rfl⟩ | exact ⟨rfl, trivial⟩ | exact .inl ⟨rfl, trivial⟩ | exact .inr ⟨rfl, trivial⟩ | exact ⟨by decide, rfl⟩) ?_
              refine VA.done (by kernel_rfl) ?_
              refine VC.sr ?_
              refine VO.mv rfl rfl rfl rfl ?_
              refine VO.ma rfl rfl rfl rfl ?_
              refine VO.nil ?_
              refine VC.le _ (Le.fam (t := 2) (l := (l.set m {l.getD m default with each := r96}).set m {l.getD m default with each := r96, fixed := r103}) hB hnew rfl (by simp) (.inr ⟨_, _, _, _, rfl, hcap, hmx, rfl⟩) (fun q hq => famAt' ((famSet (by rw [List.length_set]; omega) (by rw [getD_set_self (by omega)]; rfl)).trans (famSet (by omega) rfl)) hq)) ?_
              refine VC.ret ?_
              exact Exists.intro _ (And.intro (RetV.one Tryz.results66 (ResV.tmp rfl)) (And.intro (by first | exact ⟨_, ⟨MRok.small (by omega) (fun x hx => (hok x hx).six), by rw [List.length_map]; omega, by rw [List.length_map]; omega⟩, rfl⟩ | exact ⟨_, ⟨MRok.small (by simp; omega) (by rw [List.set_set]; exact MRok.set hok ⟨hr78, (MRok.getD hok (m := m) (by omega)).six.2⟩), by simp; omega, by simp; omega⟩, rfl⟩ | exact ⟨_, ⟨MRok.small (by simp; omega) (by rw [List.set_set]; exact MRok.set hok ⟨(MRok.getD hok (m := m) (by omega)).1, (MRok.getD hok (m := m) (by omega)).six.2⟩), by simp; omega, by simp; omega⟩, rfl⟩ | exact ⟨(l.set m {l.getD m default with b := b3, c := c3, can := (l.getD m default).can ++ [r67]}).map toM, ⟨MRok.small (by simp; omega) (MRok.set hok (m := m) (x := {l.getD m default with b := b3, c := c3, can := (l.getD m default).can ++ [r67]}) ⟨(MRok.getD hok (m := m) (by omega)).1, by show ((l.getD m default).can ++ [r67]).length ≤ 6; have := (MRok.getD hok (m := m) (by omega)).2.1; rw [List.length_append, List.length_singleton]; omega, fun y hy => by rcases List.mem_append.1 (show y ∈ (l.getD m default).can ++ [r67] from hy) with hy | hy; exact (MRok.getD hok (m := m) (by omega)).2.2 y hy; (rw [List.mem_singleton] at hy; subst hy; exact hr67)⟩), by simp; omega, by simp; omega⟩, rfl⟩) ((show k + 1 + 8 * q + 1 + 1 + 1 + 1 + 1 ≤ k + 60 by omega))))
          ·
            refine OpE.buildSlice (zc := #[.int .i64 0, .int .i64 0, .int .i64 0]) rfl hB rfl Tryz.underlying22 Tryz.sizeOf3 Tryz.zeroValue3 (by decide) (by decide) (by kernel_rfl) rfl rfl ?_
            refine VA.all (rs := [3]) (by kernel_rfl) (by decide) ?_
            refine ⟨⟨_, rfl, .inl rfl, ?_⟩, trivial⟩
            refine OpE.buildSlice (zc := #[.int .i64 0, .int .i64 0, .int .i64 0]) rfl hB rfl Tryz.underlying22 Tryz.sizeOf3 Tryz.zeroValue3 (by decide) (by decide) (by kernel_rfl) rfl rfl ?_
            refine VA.all (rs := [4]) (by kernel_rfl) (by decide) ?_
            refine ⟨⟨_, rfl, .inl rfl, ?_⟩, trivial⟩
            refine OpE.callT' (k + 1 + 8 * q + 1 + 1 + 1) rfl rfl hB rfl Tryz.call15 rfl (pick_X (by rfl) (by decide) (by decide) (by repeat (first | exact AllX.nil | refine AllX.cons ?_))) (by omega) ?_
            rintro _ ⟨r96, rfl⟩
            refine VA.all (rs := [11]) (by kernel_rfl) (by decide) ?_
            refine ⟨⟨_, rfl, .inl rfl, ?_⟩, trivial⟩
            refine OpE.callT' (k + 1 + 8 * q + 1 + 1 + 1 + 1) rfl rfl hB rfl Tryz.call15 rfl (pick_X (by rfl) (by decide) (by decide) (by repeat (first | exact AllX.nil | refine AllX.cons ?_))) (by omega) ?_
            rintro _ ⟨r103, rfl⟩
            refine VA.take (i := 12) rfl (by kernel_rfl) (by kernel_rfl) (by kernel_rfl) rfl rfl (OpV.nilCheck rfl rfl) ?_
            refine VA.take (i := 13) rfl (by kernel_rfl) (by kernel_rfl) (by kernel_rfl) rfl rfl (OpV.fieldAddrO 1 rfl Tryz.underlying128 rfl rfl Tryz.sizeOf3 rfl) ?_
            refine VA.all (rs := [14]) (by kernel_rfl) (by decide) ?_
            refine ⟨⟨_, rfl, .inl rfl, ?_⟩, trivial⟩
            refine OpE.store1 (i := 0) rfl hB rfl Tryz.sizeOf3 rfl rfl rfl rfl rfl rfl (rowL_in rfl (by omega) (by decide)) (rowL_set (x := ({l.getD m default with each := r96} : MR)) rfl (by omega) (by decide) rfl (ne5_1 rfl rfl rfl rfl)) (by first | exact ⟨rfl, rfl⟩ | exact .inl ⟨rfl, rfl⟩ | exact .inr ⟨rfl, rfl⟩ | exact ⟨rfl, trivial⟩ | exact .inl ⟨rfl, trivial⟩ | exact .inr ⟨rfl, trivial⟩ | exact ⟨by decide, rfl⟩) ?_
            refine VA.take (i := 15) rfl (by kernel_rfl) (by kernel_rfl) (by kernel_rfl) rfl rfl (OpV.nilCheck rfl rfl) ?_
            refine VA.take (i := 16) rfl (by kernel_rfl) (by kernel_rfl) (by kernel_rfl) rfl rfl (OpV.fieldAddrO 2 rfl Tryz.underlying128 rfl rfl Tryz.sizeOf3 rfl) ?_
            refine VA.all (rs := [17]) (by kernel_rfl) (by decide) ?_
            refine ⟨⟨_, rfl, .inl rfl, ?_⟩, trivial⟩
            refine OpE.store1 (i := 0) rfl hB rfl Tryz.sizeOf3 rfl rfl rfl rfl rfl rfl (rowL_in rfl (by rw [List.length_set]; omega) (by decide)) (rowL_set (x := ({l.getD m default with each := r96, fixed := r103} : MR)) rfl (by rw [List.length_set]; omega) (by decide) rfl (by rw [getD_set_self (by omega)]; exact ne5_2 rfl rfl rfl rfl)) (by first | exact ⟨rfl, rfl⟩ | exact .inl ⟨rfl, rfl⟩ | exact .inr ⟨rfl, rfl⟩ | exact ⟨rfl, trivial⟩ | exact .inl ⟨rfl, trivial⟩ | exact .inr ⟨rfl, trivial⟩ | exact ⟨by decide, rfl⟩) ?_
            refine VA.done (by kernel_rfl) ?_
            refine VC.sr ?_
            refine VO.mv rfl rfl rfl rfl ?_
            refine VO.ma rfl rfl rfl rfl ?_
            refine VO.nil ?_
            refine VC.le _ (Le.fam (t := 2) (l := (l.set m {l.getD m default with each := r96}).set m {l.getD m default with each := r96, fixed := r103}) hB hnew rfl (by simp) (.inr ⟨_, _, _, _, rfl, hcap, hmx, rfl⟩) (fun q hq => famAt' ((famSet (by rw [List.length_set]; omega) (by rw [getD_set_self (by omega)]; rfl)).trans (famSet (by omega) rfl)) hq)) ?_
            refine VC.ret ?_
            exact Exists.intro _ (And.intro (RetV.one Tryz.results66 (ResV.tmp rfl)) (And.intro (by first | exact ⟨_, ⟨MRok.small (by omega) (fun x hx => (hok x hx).six), by rw [List.length_map]; omega, by rw [List.length_map]; omega⟩, rfl⟩ | exact ⟨_, ⟨MRok.small (by simp; omega) (by rw [List.set_set]; exact MRok.set hok ⟨hr78, (MRok.getD hok (m := m) (by omega)).six.2⟩), by simp; omega, by simp; omega⟩, rfl⟩ | exact ⟨_, ⟨MRok.small (by simp; omega) (by rw [List.set_set]; exact MRok.set hok ⟨(MRok.getD hok (m := m) (by omega)).1, (MRok.getD hok (m := m) (by omega)).six.2⟩), by simp; omega, by simp; omega⟩, rfl⟩ | exact ⟨(l.set m {l.getD m default with b := b3, c := c3, can := (l.getD m default).can ++ [r67]}).map toM, ⟨MRok.small (by simp; omega) (MRok.set hok (m := m) (x := {l.getD m default with b := b3, c := c3, can := (l.getD m default).can ++ [r67]}) ⟨(MRok.getD hok (m := m) (by omega)).1, by show ((l.getD m default).can ++ [r67]).length ≤ 6; have := (MRok.getD hok (m := m) (by omega)).2.1; rw [List.length_append, List.length_singleton]; omega, fun y hy => by rcases List.mem_append.1 (show y ∈ (l.getD m default).can ++ [r67] from hy) with hy | hy; exact (MRok.getD hok (m := m) (by omega)).2.2 y hy; (rw [List.mem_singleton] at hy; subst hy; exact hr67)⟩), by simp; omega, by simp; omega⟩, rfl⟩) ((show k + 1 + 8 * q + 1 + 1 + 1 + 1 + 1 ≤ k + 60 by omega))))
        · have aH6 := aH6b
          try simp only [qqT, qqF, qqN, qqM, qqL, qqE] at aH6
          refine VC.draw (fun j b => (j = 9 ∧ (l.getD m default).val.ownBlock = some b) ∨ (j = 12 ∧ b = g)) hB (by kernel_rfl) ?_
          refine VA.take (i := 0) rfl (by kernel_rfl) (by kernel_rfl) (by kernel_rfl) rfl rfl (OpV.move (.inl rfl) rfl) ?_
          refine VA.take (i := 1) rfl (by kernel_rfl) (by kernel_rfl) (by kernel_rfl) rfl rfl (OpV.move (.inl rfl) rfl) ?_
          refine VA.take (i := 2) rfl (by kernel_rfl) (by kernel_rfl) (by kernel_rfl) rfl rfl (OpV.nilCheck rfl rfl) ?_
          refine VA.take (i := 3) rfl (by kernel_rfl) (by kernel_rfl) (by kernel_rfl) rfl rfl (OpV.fieldAddrO 4 rfl Tryz.underlying128 rfl rfl Tryz.sizeOf67 rfl) ?_
          refine VA.take (i := 4) rfl (by kernel_rfl) (by kernel_rfl) (by kernel_rfl) rfl rfl (OpV.load_own (i := 0) rfl hB Tryz.isAgg67 rfl rfl (rowL_at rfl (by omega) (by decide)) (by first | exact Wi.not1 (by kernel_rfl) | exact Wi.not2 (by kernel_rfl) (by kernel_rfl) | exact Wi.notX (by kernel_rfl))) ?_
          refine VA.take (i := 5) rfl (by kernel_rfl) (by kernel_rfl) (by kernel_rfl) rfl rfl (OpV.move (.inl rfl) rfl) ?_
          refine VA.all (rs := [6]) (by kernel_rfl) (by decide) ?_
          refine ⟨⟨_, rfl, .inl rfl, ?_⟩, trivial⟩
          refine OpE.buildSlice (zc := #[.string ⟨#[]⟩, .string ⟨#[]⟩, .string ⟨#[]⟩]) rfl hB rfl Tryz.underlying67 Tryz.sizeOf9 Tryz.zeroValue9 (by decide) (by decide) (by kernel_rfl) rfl rfl ?_
          refine VA.all (rs := [7]) (by kernel_rfl) (by decide) ?_
          refine ⟨⟨_, rfl, .inl rfl, ?_⟩, trivial⟩
          refine OpE.callT' (k + 1 + 8 * q + 1 + 1 + 1) rfl rfl hB rfl Tryz.call16 rfl (some_T 1000 (by rfl) (by decide) (by decide) (by repeat (first | exact AllS.nil | refine AllS.cons (by decide) ?_))) (by omega) ?_
          rintro _ ⟨r67, hr67, rfl⟩
          refine VA.all (rs := [8]) (by kernel_rfl) (by decide) ?_
          refine ⟨⟨_, rfl, .inl rfl, ?_⟩, trivial⟩
          refine OpE.buildSlice (zc := #[.string ⟨#[]⟩]) rfl hB rfl Tryz.underlying67 Tryz.sizeOf9 Tryz.zeroValue9 (by decide) (by decide) (by kernel_rfl) rfl rfl ?_
          refine VA.all (rs := [9]) (by kernel_rfl) (by decide) ?_
          refine ⟨⟨_, rfl, .inl rfl, ?_⟩, trivial⟩
          refine OpE.append1S (i := m + 1) rfl hB rfl Tryz.underlying67 (infoOf Tryz.t9 1 (by kernel_rfl) rfl rfl) rfl (by decide) (by decide) rfl (famAt (by omega)) rfl rfl (strsL_snoc _ _) (by have := (MRok.getD hok (m := m) (by omega)).2.1; omega) (fun _ h => .inl ⟨rfl, h⟩) ?_
          intro b3 c3
          refine VA.take (i := 10) rfl (by kernel_rfl) (by kernel_rfl) (by kernel_rfl) rfl rfl (OpV.nilCheck rfl rfl) ?_
          refine VA.take (i := 11) rfl (by kernel_rfl) (by kernel_rfl) (by kernel_rfl) rfl rfl (OpV.fieldAddrO 4 rfl Tryz.underlying128 rfl rfl Tryz.sizeOf67 rfl) ?_
          refine VA.all (rs := [12]) (by kernel_rfl) (by decide) ?_
          refine ⟨⟨_, rfl, .inl rfl, ?_⟩, trivial⟩
          refine OpE.store1 (i := 0) rfl hB rfl Tryz.sizeOf67 rfl rfl rfl rfl rfl rfl (rowL_in rfl (by omega) (by decide)) (rowL_set (x := ({l.getD m default with b := b3, c := c3, can := (l.getD m default).can ++ [r67]} : MR)) rfl (by omega) (by decide) (by show AV.v _ = AV.v _; rw [List.length_append]; rfl) (ne5_4 rfl rfl rfl rfl)) (by first | exact ⟨rfl, rfl⟩ | exact .inl ⟨rfl, rfl⟩ | exact .inr ⟨rfl, rfl⟩ | exact ⟨rfl, trivial⟩ | exact .inl ⟨rfl, trivial⟩ | exact .inr ⟨rfl, trivial⟩ | exact ⟨by decide, rfl⟩) ?_
          refine VA.done (by kernel_rfl) ?_
          refine VC.sr ?_
          refine VO.mv rfl rfl rfl rfl ?_
          refine VO.ma rfl rfl rfl rfl ?_
          refine VO.nil ?_
          refine VC.le _ (Le.fam (t := 2) (l := l.set m {l.getD m default with b := b3, c := c3, can := (l.getD m default).can ++ [r67]}) hB hnew rfl (by simp) (.inr ⟨_, _, _, _, rfl, hcap, hmx, rfl⟩) (fun q hq => famAt' (by rw [List.map_set]; unfold rowM; rw [List.length_append]; rfl) hq)) ?_
          refine VC.ret ?_
          exact Exists.intro _ (And.intro (RetV.one Tryz.results66 (ResV.tmp rfl)) (And.intro (by first | exact ⟨_, ⟨MRok.small (by omega) (fun x hx => (hok x hx).six), by rw [List.length_map]; omega, by rw [List.length_map]; omega⟩, rfl⟩ | exact ⟨_, ⟨MRok.small (by simp; omega) (by rw [List.set_set]; exact MRok.set hok ⟨hr78, (MRok.getD hok (m := m) (by omega)).six.2⟩), by simp; omega, by simp; omega⟩, rfl⟩ | exact ⟨_, ⟨MRok.small (by simp; omega) (by rw [List.set_set]; exact MRok.set hok ⟨(MRok.getD hok (m := m) (by omega)).1, (MRok.getD hok (m := m) (by omega)).six.2⟩), by simp; omega, by simp; omega⟩, rfl⟩ | exact ⟨(l.set m {l.getD m default with b := b3, c := c3, can := (l.getD m default).can ++ [r67]}).map toM, ⟨MRok.small (by simp; omega) (MRok.set hok (m := m) (x := {l.getD m default with b := b3, c := c3, can := (l.getD m default).can ++ [r67]}) ⟨(MRok.getD hok (m := m) (by omega)).1, by show ((l.getD m default).can ++ [r67]).length ≤ 6; have := (MRok.getD hok (m := m) (by omega)).2.1; rw [List.length_append, List.length_singleton]; omega, fun y hy => by rcases List.mem_append.1 (show y ∈ (l.getD m default).can ++ [r67] from hy) with hy | hy; exact (MRok.getD hok (m := m) (by omega)).2.2 y hy; (rw [List.mem_singleton] at hy; subst hy; exact hr67)⟩), by simp; omega, by simp; omega⟩, rfl⟩) ((show k + 1 + 8 * q + 1 + 1 + 1 + 1 ≤ k + 60 by omega))))
    · have aH4 := aH4b
      try simp only [qqT, qqF, qqN, qqM, qqL, qqE] at aH4
      refine VC.skip ?_
      refine VC.sr ?_
      refine VO.mv rfl rfl rfl rfl ?_
      refine VO.ma rfl rfl rfl rfl ?_
      refine VO.nil ?_
      refine VC.le _ (Le.fam (t := 2) (l := l) hB hnew rfl rfl (.inl ⟨_, rfl⟩) (fun q hq => famAt hq)) ?_
      refine VC.ret ?_
      exact Exists.intro _ (And.intro (RetV.one Tryz.results66 (ResV.tmp rfl)) (And.intro (by first | exact ⟨_, ⟨MRok.small (by omega) (fun x hx => (hok x hx).six), by rw [List.length_map]; omega, by rw [List.length_map]; omega⟩, rfl⟩ | exact ⟨_, ⟨MRok.small (by simp; omega) (by rw [List.set_set]; exact MRok.set hok ⟨hr78, (MRok.getD hok (m := m) (by omega)).six.2⟩), by simp; omega, by simp; omega⟩, rfl⟩ | exact ⟨_, ⟨MRok.small (by simp; omega) (by rw [List.set_set]; exact MRok.set hok ⟨(MRok.getD hok (m := m) (by omega)).1, (MRok.getD hok (m := m) (by omega)).six.2⟩), by simp; omega, by simp; omega⟩, rfl⟩ | exact ⟨(l.set m {l.getD m default with b := b3, c := c3, can := (l.getD m default).can ++ [r67]}).map toM, ⟨MRok.small (by simp; omega) (MRok.set hok (m := m) (x := {l.getD m default with b := b3, c := c3, can := (l.getD m default).can ++ [r67]}) ⟨(MRok.getD hok (m := m) (by omega)).1, by show ((l.getD m default).can ++ [r67]).length ≤ 6; have := (MRok.getD hok (m := m) (by omega)).2.1; rw [List.length_append, List.length_singleton]; omega, fun y hy => by rcases List.mem_append.1 (show y ∈ (l.getD m default).can ++ [r67] from hy) with hy | hy; exact (MRok.getD hok (m := m) (by omega)).2.2 y hy; (rw [List.mem_singleton] at hy; subst hy; exact hr67)⟩), by simp; omega, by simp; omega⟩, rfl⟩) ((show k + 1 + 8 * q + 1 ≤ k + 60 by omega))))
end Go.Proofs.YtaaokimiadfidaaGreatDoor
