/- Part 2 of a proof: the walks and laws that it needs. -/
import Derived.Lib.SliceRun
import Derived.Lib.AppendZerosOnto
import Derived.Lib.Overlaps
import Derived.MapKept
import Derived.Laws.StructEq
import Derived.Test.YtaaokimiadfidaaGreatDoorProg
import Derived.Deep.QuietTactic
import Derived.BigQuiet
import Derived.Shelf.SlIter.Nil
import Derived.Shelf.SortM.Plain
import Derived.Shelf.SortM.SortNone
import Derived.Ground.GgzProg
import Derived.Ground.SlgmProg
import Derived.StringKeys
import Derived.Laws.Bits64
import Derived.Test.YtaaokimiadfidaaGreatDoorZX1
namespace Go.Proofs.YtaaokimiadfidaaGreatDoor
open Go.RowKit
set_option linter.unusedVariables false
set_option linter.unusedSimpArgs false

def cyc (ms : List Mach) (ns : List NeedS) (plan : List Int) (k : Nat) : Nat → Int
 | 0 => (ms.getD k default).fixed
 | r + 1 => if plan.getD r 0 = (k : Int) then cyc ms ns plan k r + (ms.getD k default).each * (ns.getD r default).count else cyc ms ns plan k r
def cycL (ms : List Mach) (ns : List NeedS) (plan : List Int) : List Int := tabI ms.length (fun k => cyc ms ns plan k plan.length)
theorem cycL_len (ms : List Mach) (ns : List NeedS) (plan : List Int) : (cycL ms ns plan).length = ms.length := tabI_len _ _
theorem needsF_len {ns : List NeedS} {lo hi : Int} (h : needsF ns lo hi = 0) : ns.length ≤ 1000 := by
 rw [needsF] at h
 split at h
 ·cases h
 ·omega
theorem needsF_count {ns : List NeedS} {lo hi : Int} (h : needsF ns lo hi = 0) {i : Nat} (hi' : i < ns.length) : lo ≤ (ns.getD i default).count ∧ (ns.getD i default).count ≤ hi := by
 have hl := needsF_len h
 rw [needsF, if_neg (by omega)] at h
 have := firstE_zero h i hi'
 rw [needE] at this
 split at this
 ·cases this
 ·split at this
  ·cases this
  ·split at this
   ·cases this
   ·rename_i h3
    have h3' := Bool.eq_false_iff.2 h3
    simp only [outR, Bool.or_eq_false_iff, decide_eq_false_iff_not] at h3'
    omega
theorem mul_in {a b : Int} (h1 : 0 ≤ a ∧ a ≤ 10000000) (h2 : 1 ≤ b ∧ b ≤ 1000) : 0 ≤ a * b ∧ a * b ≤ 10000000000 := by
 refine ⟨Int.mul_nonneg h1.1 (by omega), ?_⟩
 have h3 : a * b ≤ 10000000 * b := Int.mul_le_mul_of_nonneg_right h1.2 (by omega)
 omega
section
variable {ms : List Mach} {ns : List NeedS} {plan : List Int}
theorem cyc_in (hm : machF ms = 0) (hn : needsF ns 1 1000 = 0) {k : Nat} (hk : k < ms.length) : ∀ {r : Nat}, r ≤ ns.length → 0 ≤ cyc ms ns plan k r ∧ cyc ms ns plan k r ≤ 10000000 + 10000000000 * r
 | 0, _ => by have := (machF_each hm hk).1; rw [cyc]; omega
 | r + 1, hr => by
  have ih := cyc_in hm hn hk (r := r) (by omega)
  have hp := mul_in (machF_each hm hk).1.1 (needsF_count hn (i := r) (by omega))
  rw [cyc]
  split <;> omega
theorem planF_zero (h : planF ms ns plan = 0) : plan.length = ns.length ∧ ∀ j, j < plan.length → planE ms ns plan j = 0 := by
 rw [planF] at h
 split at h
 ·cases h
 ·split at h
  ·rename_i h2; exact absurd h h2
  ·rename_i h1 h2
   exact ⟨by omega, firstE_zero (by omega)⟩
end
theorem if_step {j q : Nat} {a b : Int} (h : j ≠ q) : (if j < q then a else b) = (if j < q + 1 then a else b) := by
 by_cases hj : j < q
 ·rw [if_pos hj, if_pos (by omega)]
 ·rw [if_neg hj, if_neg (by omega)]
def slowC (ms : List Mach) (ns : List NeedS) (plan : List Int) : Int := maxL (cycL ms ns plan)
end Go.Proofs.YtaaokimiadfidaaGreatDoor
namespace Go.Proofs.YtaaokimiadfidaaGreatDoor
set_option linter.unusedVariables false
set_option linter.unusedSimpArgs false
def ndiff (a b : Nat) : Nat := a ^^^ (a &&& b)
theorem ndiff_bit (a b i : Nat) : (ndiff a b).testBit i = (a.testBit i && !b.testBit i) := by
 unfold ndiff
 rw [Nat.testBit_xor, Nat.testBit_and]
 cases a.testBit i <;> cases b.testBit i <;> rfl
def SubN (a r : Nat) : Prop := a &&& r = a
instance (a r : Nat) : Decidable (SubN a r) := inferInstanceAs (Decidable (_ = _))
theorem SubN.iff {a r : Nat} : SubN a r ↔ ∀ i, a.testBit i = true → r.testBit i = true := by
 constructor
 ·intro h i hi
  have := congrArg (fun x => x.testBit i) h
  simp only [Nat.testBit_and, hi, Bool.true_and] at this
  exact this
 ·intro h
  refine Nat.eq_of_testBit_eq fun i => ?_
  rw [Nat.testBit_and]
  cases hi : a.testBit i with
  | false => rfl
  | true => rw [h i hi]; rfl
theorem SubN.refl (a : Nat) : SubN a a := Nat.and_self a
theorem SubN.zero (r : Nat) : SubN 0 r := Nat.zero_and r
theorem SubN.le {a r : Nat} (h : SubN a r) : a ≤ r := by rw [← h]; exact Nat.and_le_right
theorem SubN.trans {a b c : Nat} (h1 : SubN a b) (h2 : SubN b c) : SubN a c := SubN.iff.2 fun i hi => SubN.iff.1 h2 i (SubN.iff.1 h1 i hi)
theorem SubN.and_ (a r : Nat) : SubN (a &&& r) r := by
 unfold SubN; rw [Nat.and_assoc, Nat.and_self]
theorem SubN.diff (a b : Nat) : SubN (ndiff a b) a := SubN.iff.2 fun i hi => by
 rw [ndiff_bit, Bool.and_eq_true] at hi; exact hi.1
theorem and_half (a b : Nat) : (a &&& b) / 2 = a / 2 &&& b / 2 := by
 refine Nat.eq_of_testBit_eq fun i => ?_
 rw [Nat.testBit_div_two, Nat.testBit_and, Nat.testBit_and, Nat.testBit_div_two, Nat.testBit_div_two]
theorem and_low (a b : Nat) : (a &&& b) % 2 = if a % 2 = 1 ∧ b % 2 = 1 then 1 else 0 := by
 have h := Nat.testBit_and a b 0
 simp only [Nat.testBit_zero] at h
 by_cases ha : a % 2 = 1
 ·by_cases hb : b % 2 = 1
  ·rw [if_pos ⟨ha, hb⟩]
   rw [ha, hb] at h
   simpa using h
  ·rw [if_neg (fun h => hb h.2)]
   have hb0 : b % 2 = 0 := by omega
   have h' : ¬ ((a &&& b) % 2 = 1) := fun e => by rw [e, ha, hb0] at h; exact absurd h (by decide)
   have := Nat.mod_two_eq_zero_or_one (a &&& b)
   omega
 ·rw [if_neg (fun h => ha h.1)]
  have ha0 : a % 2 = 0 := by omega
  have h' : ¬ ((a &&& b) % 2 = 1) := fun e => by rw [e, ha0] at h; exact absurd h (by simp)
  have := Nat.mod_two_eq_zero_or_one (a &&& b)
  omega
theorem SubN.half {a r : Nat} (h : SubN a r) : SubN (a / 2) (r / 2) := by
 unfold SubN at h ⊢; rw [← and_half, h]
theorem SubN.low {a r : Nat} (h : SubN a r) : a % 2 ≤ r % 2 := by
 unfold SubN at h
 have h2 := and_low a r
 rw [h] at h2
 split at h2 <;> omega
theorem sub_next : ∀ (sub s r : Nat), SubN s r → SubN sub r → s < sub → s ≤ (sub - 1) &&& r
 | sub, s, r, h1, h2, h => by
  have e1 := and_half (sub - 1) r
  have e2 := and_low (sub - 1) r
  have hl := h1.low
  have hm := h2.low
  by_cases hb : sub % 2 = 1
  ·have hd : (sub - 1) / 2 = sub / 2 := by omega
   rw [hd, h2.half] at e1
   have h0 : (sub - 1) % 2 = 0 := by omega
   rw [if_neg (by omega)] at e2
   omega
  ·have hs : s / 2 < sub / 2 := by omega
   have hd : (sub - 1) / 2 = sub / 2 - 1 := by omega
   have ih := sub_next (sub / 2) (s / 2) (r / 2) h1.half h2.half hs
   rw [hd] at e1
   rw [← e1] at ih
   by_cases hr : r % 2 = 1
   ·rw [if_pos ⟨by omega, hr⟩] at e2; omega
   ·rw [if_neg (fun h => hr h.2)] at e2; omega
 termination_by sub => sub
 decreasing_by omega
theorem sub_dec {sub r : Nat} (h : sub ≠ 0) : (sub - 1) &&& r < sub := Nat.lt_of_le_of_lt Nat.and_le_left (by omega)
theorem full_bit (n i : Nat) : (2 ^ n - 1).testBit i = decide (i < n) := Nat.testBit_two_pow_sub_one ..
end Go.Proofs.YtaaokimiadfidaaGreatDoor
namespace Go.Proofs.YtaaokimiadfidaaGreatDoor
open Go.RowKit
set_option linter.unusedVariables false
set_option linter.unusedSimpArgs false
abbrev neverC : Int := 1152921504606846976
def numB (b : Nat → Bool) : Nat → Nat
 | 0 => 0
 | r + 1 => numB b r + if b r = true then 1 else 0
def timB (m : Mach) (ns : List NeedS) (b : Nat → Bool) : Nat → Int
 | 0 => m.fixed
 | r + 1 => if b r = true then timB m ns b r + m.each * (ns.getD r default).count else timB m ns b r
def okA (m : Mach) (ns : List NeedS) (b : Nat → Bool) (i : Nat) : Bool := !b i || (hasK m (ns.getD i default).key && decide ((numB b (i + 1) : Int) ≤ m.feeders))
def okB (m : Mach) (ns : List NeedS) (b : Nat → Bool) : Bool := (List.range ns.length).all (okA m ns b)
def cycB (m : Mach) (ns : List NeedS) (b : Nat → Bool) : Int := if okB m ns b = true then timB m ns b ns.length else neverC
theorem numB_congr {b b' : Nat → Bool} : ∀ {r : Nat}, (∀ i, i < r → b i = b' i) → numB b r = numB b' r
 | 0, _ => rfl
 | r + 1, h => by rw [numB, numB, numB_congr fun i hi => h i (by omega), h r (by omega)]
theorem timB_congr {m : Mach} {ns : List NeedS} {b b' : Nat → Bool} : ∀ {r : Nat}, (∀ i, i < r → b i = b' i) → timB m ns b r = timB m ns b' r
 | 0, _ => rfl
 | r + 1, h => by rw [timB, timB, timB_congr fun i hi => h i (by omega), h r (by omega)]
theorem okA_congr {m : Mach} {ns : List NeedS} {b b' : Nat → Bool} {i : Nat} (h : ∀ j, j ≤ i → b j = b' j) : okA m ns b i = okA m ns b' i := by
 unfold okA
 rw [h i (Nat.le_refl _), numB_congr fun j hj => h j (by omega)]
theorem okB_iff {m : Mach} {ns : List NeedS} {b : Nat → Bool} : okB m ns b = true ↔ ∀ i, i < ns.length → okA m ns b i = true := by
 unfold okB
 rw [List.all_eq_true]
 exact ⟨fun h i hi => h i (List.mem_range.2 hi), fun h i hi => h i (List.mem_range.1 hi)⟩
theorem cycB_congr {m : Mach} {ns : List NeedS} {b b' : Nat → Bool} (h : ∀ i, i < ns.length → b i = b' i) : cycB m ns b = cycB m ns b' := by
 have e : okB m ns b = okB m ns b' := by
  rw [Bool.eq_iff_iff, okB_iff, okB_iff]
  constructor
  ·intro h2 i hi; rw [← okA_congr fun j hj => h j (by omega)]; exact h2 i hi
  ·intro h2 i hi; rw [okA_congr fun j hj => h j (by omega)]; exact h2 i hi
 unfold cycB; rw [e, timB_congr h]
structure MnOk (ms : List Mach) (ns : List NeedS) : Prop where
 fix : ∀ k, 0 ≤ (ms.getD k default).fixed ∧ (ms.getD k default).fixed ≤ 10000000
 each : ∀ k, 0 ≤ (ms.getD k default).each ∧ (ms.getD k default).each ≤ 10000000
 cnt : ∀ i, 0 ≤ (ns.getD i default).count ∧ (ns.getD i default).count ≤ 1000
 len : ns.length ≤ 1000
theorem mul_in2 {a b : Int} (h1 : 0 ≤ a ∧ a ≤ 10000000) (h2 : 0 ≤ b ∧ b ≤ 1000) : 0 ≤ a * b ∧ a * b ≤ 10000000000 := by
 refine ⟨Int.mul_nonneg h1.1 h2.1, ?_⟩
 have h3 : a * b ≤ 10000000 * b := Int.mul_le_mul_of_nonneg_right h1.2 h2.1
 omega
section
variable {ms : List Mach} {ns : List NeedS}
theorem timB_in (h : MnOk ms ns) (k : Nat) (b : Nat → Bool) : ∀ r, 0 ≤ timB (ms.getD k default) ns b r ∧ timB (ms.getD k default) ns b r ≤ 10000000 + 10000000000 * r
 | 0 => by have := h.fix k; rw [timB]; omega
 | r + 1 => by
  have ih := timB_in h k b r
  have := mul_in2 (h.each k) (h.cnt r)
  rw [timB]; split <;> omega
theorem cycB_in (h : MnOk ms ns) (k : Nat) (b : Nat → Bool) : 0 ≤ cycB (ms.getD k default) ns b ∧ cycB (ms.getD k default) ns b ≤ neverC := by
 have h1 := timB_in h k b ns.length
 have := h.len
 unfold cycB; split <;> simp only [neverC] <;> omega
theorem timB_lt (h : MnOk ms ns) (k : Nat) (b : Nat → Bool) {r : Nat} (hr : r ≤ ns.length) : timB (ms.getD k default) ns b r < neverC := by
 have h1 := timB_in h k b r
 have := h.len
 simp only [neverC]; omega
end
def mnK (F : Nat → Int) : Nat → Int
 | 0 => neverC
 | k + 1 => min (mnK F k) (F k)
theorem mnK_never (F : Nat → Int) : ∀ K, mnK F K ≤ neverC
 | 0 => Int.le_refl _
 | K + 1 => by have := mnK_never F K; rw [mnK]; omega
theorem mnK_le {F : Nat → Int} : ∀ {K k : Nat}, k < K → mnK F K ≤ F k
 | K + 1, k, h => by
  rw [mnK]
  by_cases e : k = K
  ·subst e; omega
  ·have := mnK_le (F := F) (show k < K by omega); omega
theorem mnK_at {F : Nat → Int} : ∀ {K : Nat}, mnK F K < neverC → ∃ k, k < K ∧ F k = mnK F K
 | 0, h => absurd h (Int.lt_irrefl _)
 | K + 1, h => by
  rw [mnK] at h ⊢
  by_cases e : F K ≤ mnK F K
  ·exact ⟨K, by omega, by omega⟩
  ·obtain ⟨k, h1, h2⟩ := mnK_at (F := F) (K := K) (by omega)
   exact ⟨k, by omega, by omega⟩
theorem mnK_iff {F : Nat → Int} {K : Nat} {v : Int} (hv : v < neverC) : mnK F K ≤ v ↔ ∃ k, k < K ∧ F k ≤ v := by
 constructor
 ·intro h
  obtain ⟨k, h1, h2⟩ := mnK_at (F := F) (K := K) (by omega)
  exact ⟨k, h1, by omega⟩
 ·rintro ⟨k, h1, h2⟩
  have := mnK_le (F := F) h1; omega
theorem mnK_nn {F : Nat → Int} (h : ∀ k, 0 ≤ F k) : ∀ K, 0 ≤ mnK F K
 | 0 => show (0 : Int) ≤ neverC by decide
 | K + 1 => by have := mnK_nn h K; have := h K; rw [mnK]; omega
def fsK (F : Nat → Int) (v : Int) : Nat → Nat
 | 0 => 0
 | K + 1 => if fsK F v K < K then fsK F v K else if F K = v then K else K + 1
theorem fsK_spec (F : Nat → Int) (v : Int) : ∀ K, fsK F v K ≤ K ∧ (∀ j, j < fsK F v K → F j ≠ v) ∧ (fsK F v K < K → F (fsK F v K) = v)
 | 0 => ⟨Nat.le_refl _, fun j hj => absurd hj (Nat.not_lt_zero j), fun h => absurd h (Nat.not_lt_zero _)⟩
 | K + 1 => by
  obtain ⟨h1, h2, h3⟩ := fsK_spec F v K
  rw [fsK]
  split
  ·rename_i h; exact ⟨by omega, h2, fun _ => h3 h⟩
  ·have e : fsK F v K = K := by omega
   rw [e] at h2
   split
   ·rename_i h4; exact ⟨by omega, h2, fun _ => h4⟩
   ·rename_i h4
    refine ⟨Nat.le_refl _, fun j hj => ?_, fun h => absurd h (Nat.lt_irrefl _)⟩
    by_cases e2 : j = K
    ·rw [e2]; exact h4
    ·exact h2 j (by omega)
theorem fsK_eq {F : Nat → Int} {v : Int} {K k : Nat} (hk : k < K) (h : F k = v) (hn : ∀ j, j < k → F j ≠ v) : fsK F v K = k := by
 obtain ⟨h1, h2, h3⟩ := fsK_spec F v K
 have a1 : ¬ k < fsK F v K := fun h' => h2 k h' h
 have a2 : ¬ fsK F v K < k := fun h' => hn _ h' (h3 (by omega))
 omega
def mnS (F : Nat → Int) (s : Nat) : Int := mnK (fun t => if SubN t s then F t else neverC) (s + 1)
theorem mnS_iff {F : Nat → Int} {s : Nat} {v : Int} (hv : v < neverC) : mnS F s ≤ v ↔ ∃ t, SubN t s ∧ F t ≤ v := by
 unfold mnS
 rw [mnK_iff hv]
 constructor
 ·rintro ⟨k, h1, h2⟩
  split at h2
  ·rename_i h3; exact ⟨k, h3, h2⟩
  ·omega
 ·rintro ⟨t, h1, h2⟩
  exact ⟨t, by have := h1.le; omega, by rw [if_pos h1]; exact h2⟩
theorem mnS_never (F : Nat → Int) (s : Nat) : mnS F s ≤ neverC := mnK_never _ _
theorem mnS_nn {F : Nat → Int} (h : ∀ t, 0 ≤ F t) (s : Nat) : 0 ≤ mnS F s := mnK_nn (fun t => by split; exact h t; decide) _
theorem eq_of_le {a b : Int} (ha : a ≤ neverC) (hb : b ≤ neverC) (ha0 : 0 ≤ a) (hb0 : 0 ≤ b) (h : ∀ v, 0 ≤ v → v < neverC → (a ≤ v ↔ b ≤ v)) : a = b := by
 by_cases h1 : a < b
 ·exact absurd ((h a ha0 (by omega)).1 (Int.le_refl _)) (by omega)
 ·by_cases h2 : b < a
  ·exact absurd ((h b hb0 (by omega)).2 (Int.le_refl _)) (by omega)
  ·omega
section
variable (ms : List Mach) (ns : List NeedS) (fx : Nat → Nat)
def alnS (k t : Nat) : Int := cycB (ms.getD k default) ns fun i => (fx k ||| t).testBit i
def belS : Nat → Nat → Int
 | 0, s => if s = 0 then 0 else neverC
 | k + 1, s => mnS (fun t => max (belS k (ndiff s t)) (alnS ms ns fx k t)) s
end
theorem ex_mask (p : Nat → Bool) (s : Nat) : ∃ t : Nat, ∀ i, t.testBit i = (s.testBit i && p i) := by
 induction s using Nat.strongRecOn generalizing p with
 | _ s ih =>
  by_cases h0 : s = 0
  ·subst h0; exact ⟨0, fun i => by simp⟩
  ·obtain ⟨t, ht⟩ := ih (s / 2) (by omega) fun i => p (i + 1)
   refine ⟨2 * t + if (s.testBit 0 && p 0) = true then 1 else 0, fun i => ?_⟩
   cases i with
   | zero =>
    cases h : (s.testBit 0 && p 0) with
    | true => simp only [if_true, Nat.testBit_zero]; simp
    | false => simp [Nat.testBit_zero]
   | succ i =>
    rw [Nat.testBit_succ, Nat.testBit_succ]
    have : (2 * t + if (s.testBit 0 && p 0) = true then 1 else 0) / 2 = t := by split <;> omega
    rw [this]; exact ht i
section
variable {ms : List Mach} {ns : List NeedS} {fx : Nat → Nat}
theorem belS_nn (h : MnOk ms ns) : ∀ k s, 0 ≤ belS ms ns fx k s
 | 0, s => by rw [belS]; split <;> decide
 | k + 1, s => mnS_nn (fun t => by have := belS_nn h k (ndiff s t); omega) s
theorem belS_never : ∀ k s, belS ms ns fx k s ≤ neverC
 | 0, s => by rw [belS]; split <;> decide
 | k + 1, s => mnS_never _ _
theorem belS_iff {v : Int} (h0 : 0 ≤ v) (hv : v < neverC) : ∀ (k s : Nat), belS ms ns fx k s ≤ v ↔ ∃ g : Nat → Nat, (∀ i, s.testBit i = true → g i < k) ∧ ∀ j, j < k → cycB (ms.getD j default) ns (fun i => (fx j).testBit i || (s.testBit i && decide (g i = j))) ≤ v
  | 0, s => by
    rw [belS]
    constructor
    · intro h
      split at h
      · rename_i e; subst e; exact ⟨fun _ => 0, fun i hi => by simp at hi, fun j hj => absurd hj (Nat.not_lt_zero j)⟩
      · omega
    · rintro ⟨g, h1, _⟩
      rw [if_pos]
      · exact h0
      · refine Nat.eq_of_testBit_eq fun i => ?_
        cases hi : s.testBit i with
        | false => simp
        | true => exact absurd (h1 i hi) (Nat.not_lt_zero _)
  | k + 1, s => by
    rw [belS, mnS_iff hv]
    constructor
    · rintro ⟨t, ht, hm⟩
      obtain ⟨g, g1, g2⟩ := (belS_iff h0 hv k (ndiff s t)).1 (by omega)
      refine ⟨fun i => if t.testBit i = true then k else g i, fun i hi => ?_, fun j hj => ?_⟩
      · show (if t.testBit i = true then k else g i) < k + 1
        split
        · omega
        · rename_i h2
          have := g1 i (by rw [ndiff_bit, hi]; simpa using h2)
          omega
      · by_cases e : j = k
        · subst e
          refine Int.le_trans (Int.le_of_eq (cycB_congr fun i hi => ?_)) (show alnS ms ns fx j t ≤ v by omega)
          rw [Nat.testBit_or]
          congr 1
          show (s.testBit i && decide ((if t.testBit i = true then j else g i) = j)) = t.testBit i
          cases h2 : t.testBit i with
          | true => rw [SubN.iff.1 ht i h2]; simp
          | false =>
            cases h3 : s.testBit i with
            | false => rfl
            | true =>
              have := g1 i (by rw [ndiff_bit, h3, h2]; rfl)
              simp; omega
        · refine Int.le_trans (Int.le_of_eq (cycB_congr fun i hi => ?_)) (g2 j (by omega))
          congr 1
          rw [ndiff_bit]
          show (s.testBit i && decide ((if t.testBit i = true then k else g i) = j)) = _
          cases h2 : t.testBit i with
          | true => simp; omega
          | false => simp
    · rintro ⟨g, g1, g2⟩
      obtain ⟨t, ht⟩ := ex_mask (fun i => decide (g i = k)) s
      have hts : SubN t s := SubN.iff.2 fun i hi => by rw [ht, Bool.and_eq_true] at hi; exact hi.1
      refine ⟨t, hts, ?_⟩
      have h1 : belS ms ns fx k (ndiff s t) ≤ v := (belS_iff h0 hv k (ndiff s t)).2 ⟨g, fun i hi => by
        rw [ndiff_bit, ht, Bool.and_eq_true] at hi
        have := g1 i hi.1
        have h3 := hi.2
        rw [hi.1] at h3
        simp at h3
        omega, fun j hj => by
        refine Int.le_trans (Int.le_of_eq (cycB_congr fun i hi => ?_)) (g2 j (by omega))
        congr 1
        rw [ndiff_bit, ht]
        cases s.testBit i with
        | false => rfl
        | true =>
          by_cases e : g i = j
          · simp [e]; omega
          · simp [e]⟩
      have h2 : alnS ms ns fx k t ≤ v := by
        refine Int.le_trans (Int.le_of_eq (cycB_congr fun i hi => ?_)) (g2 k (by omega))
        rw [Nat.testBit_or, ht]
      omega
end
def plB (pl : List Int) (k i : Nat) : Bool := decide (i < pl.length) && decide (pl.getD i 0 = (k : Int))
theorem plB_snoc (pl : List Int) (c k i : Nat) : plB (pl ++ [(c : Int)]) k i = (plB pl k i || (decide (i = pl.length) && decide (c = k))) := by
 unfold plB
 by_cases h : i < pl.length
 ·rw [List.getD_eq_getElem?_getD, List.getElem?_append_left h, ← List.getD_eq_getElem?_getD]
  simp [h, show i < pl.length + 1 by omega, show i ≠ pl.length by omega]
 ·by_cases h2 : i = pl.length
  ·subst h2; simp
   exact ⟨fun h => by omega, fun h => by omega⟩
  ·simp [h, h2, show ¬ i < pl.length + 1 by omega]
section
variable (ms : List Mach) (ns : List NeedS)
def ExtP (pl : List Int) (v : Int) : Prop := ∃ g : Nat → Nat, (∀ i, pl.length ≤ i → i < ns.length → g i < ms.length) ∧ ∀ j, j < ms.length → cycB (ms.getD j default) ns (fun i => plB pl j i || ((decide (pl.length ≤ i) && decide (i < ns.length)) && decide (g i = j))) ≤ v
def mxK (F : Nat → Int) : Nat → Int
 | 0 => 0
 | k + 1 => max (mxK F k) (F k)
def mxC (pl : List Int) : Int := mxK (fun k => cycB (ms.getD k default) ns (plB pl k)) ms.length
def bstV : Nat → List Int → Int
 | 0, pl => mxC ms ns pl
 | d + 1, pl => mnK (fun k => bstV d (pl ++ [(k : Int)])) ms.length
def grd : Nat → List Int → List Int
 | 0, pl => pl
 | d + 1, pl => grd d (pl ++ [((fsK (fun k => bstV ms ns d (pl ++ [(k : Int)])) (bstV ms ns (d + 1) pl) ms.length : Nat) : Int)])
end
theorem mxK_le {F : Nat → Int} {v : Int} (h0 : 0 ≤ v) : ∀ {K : Nat}, mxK F K ≤ v ↔ ∀ k, k < K → F k ≤ v
 | 0 => ⟨fun _ k hk => absurd hk (Nat.not_lt_zero k), fun _ => h0⟩
 | K + 1 => by
  have ih := mxK_le (F := F) h0 (K := K)
  rw [mxK]
  constructor
  ·intro h k hk
   by_cases e : k = K
   ·subst e; omega
   ·exact ih.1 (by omega) k (by omega)
  ·intro h
   have h1 := ih.2 fun k hk => h k (by omega)
   have h2 := h K (by omega)
   omega
theorem mxK_nn (F : Nat → Int) : ∀ K, 0 ≤ mxK F K
 | 0 => Int.le_refl _
 | K + 1 => by have := mxK_nn F K; rw [mxK]; omega
theorem mxK_congr {F G : Nat → Int} : ∀ {K}, (∀ k, k < K → F k = G k) → mxK F K = mxK G K
 | 0, _ => rfl
 | K + 1, h => by rw [mxK, mxK, mxK_congr fun k hk => h k (by omega), h K (by omega)]
theorem mxK_up {F : Nat → Int} {v : Int} (h0 : 0 ≤ v) {K : Nat} (h : ∀ k, k < K → F k ≤ v) : mxK F K ≤ v := (mxK_le h0).2 h
section
variable {ms : List Mach} {ns : List NeedS}
theorem mxC_in (h : MnOk ms ns) (pl : List Int) : 0 ≤ mxC ms ns pl ∧ mxC ms ns pl ≤ neverC :=
 ⟨mxK_nn _ _, mxK_up (by decide) fun k _ => (cycB_in h k _).2⟩
theorem bstV_in (h : MnOk ms ns) : ∀ d pl, 0 ≤ bstV ms ns d pl ∧ bstV ms ns d pl ≤ neverC
 | 0, pl => mxC_in h pl
 | d + 1, pl => ⟨mnK_nn (fun k => (bstV_in h d _).1) _, mnK_never _ _⟩
theorem ext_snoc {pl : List Int} {v : Int} (hl : pl.length < ns.length) : ExtP ms ns pl v ↔ ∃ k, k < ms.length ∧ ExtP ms ns (pl ++ [(k : Int)]) v := by
 have key : ∀ (g g' : Nat → Nat) (c j : Nat), g pl.length = c → (∀ i, pl.length + 1 ≤ i → g' i = g i) → ∀ i, (plB (pl ++ [(c : Int)]) j i || ((decide (pl.length + 1 ≤ i) && decide (i < ns.length)) && decide (g' i = j))) = (plB pl j i || ((decide (pl.length ≤ i) && decide (i < ns.length)) && decide (g i = j))) := fun g g' c j hc hg i => by
  rw [plB_snoc]
  by_cases e : i = pl.length
  ·subst e
   rw [hc]
   simp [hl]
   intro h; omega
  ·by_cases e2 : pl.length + 1 ≤ i
   ·rw [hg i e2]
    simp [e, e2, show pl.length ≤ i by omega]
   ·simp [e, e2, show ¬ pl.length ≤ i by omega]
 constructor
 ·rintro ⟨g, h1, h2⟩
  refine ⟨g pl.length, h1 _ (Nat.le_refl _) hl, g, fun i hi hn => h1 i (by simp at hi; omega) hn, fun j hj => ?_⟩
  have := h2 j hj
  rw [cycB_congr fun i _ => (key g g (g pl.length) j rfl (fun _ _ => rfl) i).symm] at this
  rw [List.length_append]; exact this
 ·rintro ⟨k, hk, g, h1, h2⟩
  refine ⟨fun i => if i = pl.length then k else g i, fun i hi hn => ?_, fun j hj => ?_⟩
  ·show (if i = pl.length then k else g i) < _
   split
   ·exact hk
   ·exact h1 i (by simp; omega) hn
  ·have := h2 j hj
   rw [List.length_append] at this
   rw [← cycB_congr fun i _ => key (fun i => if i = pl.length then k else g i) g k j (if_pos rfl) (fun i hi => (if_neg (by omega)).symm) i]
   exact this
theorem bstV_iff {v : Int} (h0 : 0 ≤ v) (hv : v < neverC) : ∀ (d : Nat) (pl : List Int), pl.length + d = ns.length → (bstV ms ns d pl ≤ v ↔ ExtP ms ns pl v)
 | 0, pl, hl => by
  rw [bstV, mxC, mxK_le h0]
  have e : ∀ (g : Nat → Nat) (j i : Nat), i < ns.length → (plB pl j i || ((decide (pl.length ≤ i) && decide (i < ns.length)) && decide (g i = j))) = plB pl j i := fun g j i hi => by
   simp [show ¬ pl.length ≤ i by omega]
  constructor
  ·intro h
   exact ⟨fun _ => 0, fun i hi hn => by omega, fun j hj => by rw [cycB_congr (e _ j)]; exact h j hj⟩
  ·rintro ⟨g, _, h2⟩ j hj
   have := h2 j hj
   rwa [cycB_congr (e g j)] at this
 | d + 1, pl, hl => by
  rw [bstV, mnK_iff hv, ext_snoc (by omega)]
  exact exists_congr fun k => and_congr_right fun hk => bstV_iff h0 hv d _ (by simp; omega)
def mskB (b : Nat → Bool) : Nat → Nat
 | 0 => 0
 | r + 1 => mskB b r ||| (if b r = true then 2 ^ r else 0)
theorem mskB_bit (b : Nat → Bool) : ∀ r i, (mskB b r).testBit i = (decide (i < r) && b i)
 | 0, i => by simp [mskB]
 | r + 1, i => by
  rw [mskB, Nat.testBit_or, mskB_bit b r i]
  by_cases h : i = r
  ·subst h
   cases hb : b i <;> simp [Nat.testBit_two_pow]
  ·have h1 : (if b r = true then 2 ^ r else 0).testBit i = false := by
    split
    ·rw [Nat.testBit_two_pow]; simp; omega
    ·simp
   rw [h1, Bool.or_false]
   congr 1
   exact decide_eq_decide.2 (by omega)
def mskP (pl : List Int) (k : Nat) : Nat := mskB (plB pl k) pl.length
theorem mskP_bit (pl : List Int) (k i : Nat) : (mskP pl k).testBit i = plB pl k i := by
 unfold mskP
 rw [mskB_bit]
 unfold plB
 cases decide (i < pl.length) <;> rfl
theorem mskP_snoc (pl : List Int) (c k : Nat) : mskP (pl ++ [(c : Int)]) k = if k = c then mskP pl k ||| 2 ^ pl.length else mskP pl k := by
 refine Nat.eq_of_testBit_eq fun i => ?_
 rw [mskP_bit, plB_snoc]
 split
 ·rename_i e; subst e
  rw [Nat.testBit_or, mskP_bit, Nat.testBit_two_pow]
  simp [eq_comm]
 ·rename_i e
  rw [mskP_bit]
  simp [show ¬ c = k from fun h => e h.symm]
theorem mskP_lt (pl : List Int) (k : Nat) : mskP pl k < 2 ^ pl.length := Nat.lt_pow_two_of_testBit _ fun i hi => by
 rw [mskP_bit]; unfold plB; simp [show ¬ i < pl.length by omega]
theorem mskP_back (pl : List Int) (k : Nat) : ndiff (mskP pl k ||| 2 ^ pl.length) (2 ^ pl.length) = mskP pl k := by
 refine Nat.eq_of_testBit_eq fun i => ?_
 rw [ndiff_bit, Nat.testBit_or, mskP_bit, Nat.testBit_two_pow]
 unfold plB
 by_cases h : i < pl.length
 ·simp [show ¬ pl.length = i by omega]
 ·simp [h]
def rst (n i : Nat) : Nat := ndiff (2 ^ n - 1) (2 ^ i - 1)
theorem rst_bit (n i j : Nat) : (rst n i).testBit j = (decide (i ≤ j) && decide (j < n)) := by
 unfold rst
 rw [ndiff_bit, full_bit, full_bit]
 by_cases h1 : j < n <;> by_cases h2 : j < i <;> simp [h1, h2] <;> omega
theorem rst_zero (n : Nat) : rst n 0 = 2 ^ n - 1 := by unfold rst ndiff; simp
theorem rst_succ (n i : Nat) : ndiff (rst n i) (2 ^ i) = rst n (i + 1) := by
 refine Nat.eq_of_testBit_eq fun j => ?_
 rw [ndiff_bit, rst_bit, rst_bit, Nat.testBit_two_pow]
 by_cases h1 : i = j
 ·subst h1; simp; omega
 ·by_cases h2 : i ≤ j
  ·simp [h1, h2, show i + 1 ≤ j by omega]
  ·simp [h1, h2, show ¬ i + 1 ≤ j by omega]
theorem rst_lt (n i : Nat) : rst n i < 2 ^ n := Nat.lt_pow_two_of_testBit _ fun j hj => by
 rw [rst_bit]; simp; omega
theorem belS_bst (h : MnOk ms ns) {pl : List Int} {d : Nat} (hl : pl.length + d = ns.length) : belS ms ns (mskP pl) ms.length (rst ns.length pl.length) = bstV ms ns d pl := by
 refine eq_of_le (belS_never _ _) (bstV_in h _ _).2 (belS_nn h _ _) (bstV_in h _ _).1 fun v h0 hv => ?_
 rw [belS_iff h0 hv, bstV_iff h0 hv d pl hl]
 unfold ExtP
 refine exists_congr fun g => ?_
 refine and_congr ?_ ?_
 ·constructor
  ·intro h1 i hi hn; exact h1 i (by rw [rst_bit]; simp; omega)
  ·intro h1 i hi; rw [rst_bit] at hi; simp at hi; exact h1 i hi.1 hi.2
 ·refine forall_congr' fun j => forall_congr' fun hj => ?_
  rw [cycB_congr fun i _ => by rw [mskP_bit, rst_bit]]
def okP (ms : List Mach) (ns : List NeedS) (pl : List Int) : Prop := ∀ k, k < ms.length → okB (ms.getD k default) ns (plB pl k) = true
def mxT (ms : List Mach) (ns : List NeedS) (pl : List Int) : Int := mxK (fun k => timB (ms.getD k default) ns (plB pl k) ns.length) ms.length
theorem mxC_ok {pl : List Int} (h : okP ms ns pl) : mxC ms ns pl = mxT ms ns pl := mxK_congr fun k hk => by rw [cycB, if_pos (h k hk)]
end
end Go.Proofs.YtaaokimiadfidaaGreatDoor
namespace Go.Proofs.YtaaokimiadfidaaGreatDoor
open Go.RowKit
set_option linter.unusedVariables false
set_option linter.unusedSimpArgs false

section
variable {P : Program} {B : Bs} {W : Nat → Prop} {s : St'} {o : Oper} {K : St' → Prop} {a : Act} {w w' : World} {Q : Exit → St' → Prop}

def SrcP (P : Program) (B : Bs) (s : St') (x : Operand) (m sz : Nat) (F : Nat → AV) : Prop :=
 ∀ a w, R B s a w → ∃ (ad : Option Addr) (cap : Nat) (us : Nat → Value), a.eval x = .slice ad m cap ∧ (ad = none → m = 0 ∧ cap = 0) ∧ ∀ x0, ad = some x0 → ∀ j, j < m * sz → w.cell? (x0.add j) = some (us j) ∧ Rep w (Zn B s.hp w) (F j) (us j)
theorem SrcP.im {x : Operand} {m sz : Nat} {F : Nat → AV} (hx : evO s x = some (.im m sz F)) : SrcP P B s x m sz F := fun a w hr => by
 have := hr.ev hx
 generalize hv : a.eval x = v at this
 cases this with
 | nil => exact ⟨none, 0, fun _ => undef, rfl, fun _ => ⟨rfl, rfl⟩, fun x0 h => (by cases h)⟩
 | im m sz F b off cap c e u hZ h1 h2 hb hc hr' => exact ⟨some ⟨b, off, none⟩, cap, u, rfl, fun h => (by cases h), fun x0 h j hj => by
   cases h
   exact ⟨by rw [Addr.add_lit]; simpa [World.cell?, hb] using hc j hj, hr' j hj⟩⟩
theorem SrcP.row {x : Operand} {i n sz : Nat} {u : Value} {cs : List AV} {ty : TypeId} (hx : evO s x = some (.v u)) (hi : s.hp[i]? = some (.row u n sz cs ty)) : SrcP P B s x n sz (fun j => cs.getD j .any) := fun a w hr => by
 rw [hr.evv hx]
 obtain ⟨h0, ⟨rfl, rfl⟩ | ⟨g, cap, c, rfl, h1, h2, h3, h4, h5⟩⟩ := hr.blocks _ (List.mem_of_getElem? hi)
 ·exact ⟨none, 0, fun _ => undef, rfl, fun _ => ⟨rfl, rfl⟩, fun x0 h => (by cases h)⟩
 ·refine ⟨_, cap, fun j => c.getD j undef, rfl, fun h => (by cases h), fun x0 h j hj => ?_⟩
  cases h
  obtain ⟨v, k1, k2⟩ := h5 j (by omega)
  rw [Addr.add_lit, Nat.zero_add]
  have e : c.getD j undef = v := by rw [Array.getD_eq_getD_getElem?, k1]; rfl
  refine ⟨by simp only [e]; simpa [World.cell?, h3] using k1, ?_⟩
  simp only [e]
  rw [List.getD_eq_getElem?_getD, List.getElem?_eq_getElem (by omega)]
  exact k2
theorem SrcP.box {x : Operand} {i n sz g off cap : Nat} {o' : Own'} (hx : evO s x = some (.v (.slice (some ⟨g, off, none⟩) n cap))) (hi : s.hp[i]? = some (.box g o')) (hl : off + n * sz ≤ o'.cs.length) : SrcP P B s x n sz (fun j => o'.cs.getD (off + j) .any) := fun a w hr => by
 rw [hr.evv hx]
 obtain ⟨c, h1, h2, h3, h4⟩ := hr.blocks _ (List.mem_of_getElem? hi)
 refine ⟨_, cap, fun j => c.getD (off + j) undef, rfl, fun h => (by cases h), fun x0 h j hj => ?_⟩
 cases h
 obtain ⟨v, k1, k2⟩ := h4 (off + j) (by omega)
 rw [Addr.add_lit]
 have e : c.getD (off + j) undef = v := by rw [Array.getD_eq_getD_getElem?, k1]; rfl
 refine ⟨by simp only [e]; simpa [World.cell?, h1] using k1, ?_⟩
 simp only [e]
 rw [List.getD_eq_getElem?_getD, List.getElem?_eq_getElem (by omega)]
 exact k2

theorem R.splice (hB : B.Ok) (hr : R B s a w) {i g off : Nat} {o' : Own'} {c : Array Value} {l : List AV} {vs : List Value} (hi : s.hp[i]? = some (.box g o')) (hg : w.heap[g]? = some (.cells c o'.ty (0, 0))) (hl : vs.length = l.length)
  (hv : ∀ j, (h : j < l.length) → Rep w (Zn B s.hp w) l[j] (vs.getD j undef)) (hfit : off + l.length ≤ o'.cs.length) :
  R B ⟨s.sl, s.hp.set i (.box g ⟨o'.cs.take off ++ l ++ o'.cs.drop (off + l.length), o'.ty, o'.tot⟩), s.k⟩ a (w.setRow g (c.toList.take off ++ vs ++ c.toList.drop (off + vs.length)).toArray) := by
 have hm := List.mem_of_getElem? hi
 obtain ⟨c0, h1, h2, h3, h4⟩ := hr.blocks _ hm
 have hcc : c0 = c := by rw [hg] at h1; simp at h1; exact h1.symm
 subst hcc
 generalize hc' : (c0.toList.take off ++ vs ++ c0.toList.drop (off + vs.length)).toArray = c'
 generalize hcs' : o'.cs.take off ++ l ++ o'.cs.drop (off + l.length) = cs'
 have hsz' : c'.size = c0.size := by
  rw [← hc']
  simp only [List.size_toArray, List.length_append, List.length_take, List.length_drop, Array.length_toList]
  omega
 have hlen' : cs'.length = o'.cs.length := by
  rw [← hcs']
  simp only [List.length_append, List.length_take, List.length_drop]
  omega
 have hg' := setRow_heap w g c0 c' o'.ty (0, 0) h1
 refine hr.set hB hi (e' := .box g ⟨cs', o'.ty, o'.tot⟩) (w' := w.setRow g c') (chg_setRow w g c') (.inl rfl) ⟨c', hg', by rw [hsz', h2], by show cs'.length ≤ _; rw [hlen']; exact h3, fun q hq => ?_⟩
 have hz : ∀ b, Zn B s.hp w b → b < w.heap.size → (w.setRow g c').heap[b]? = w.heap[b]? ∧ Zn B (s.hp.set i (.box g ⟨cs', o'.ty, o'.tot⟩)) (w.setRow g c') b := fun b hb hbl => by
  refine ⟨setRow_other w g b c' fun e => hb.2.1 _ hm (by rw [e]; rfl), by simp [World.setRow]; exact hbl, fun p hp => ?_, hb.2.2⟩
  rcases List.mem_or_eq_of_mem_set hp with hp | hp
  ·exact hb.2.1 p hp
  ·subst hp; exact hb.2.1 (.box g o') hm
 have hq' : q < o'.cs.length := by rw [← hlen']; exact hq
 have key : ∀ (v : AV) (u : Value), cs'[q]? = some v → c'.toList[q]? = some u → Rep w (Zn B s.hp w) v u → ∃ u, c'[q]? = some u ∧ Rep (w.setRow g c') (Zn B (s.hp.set i (.box g ⟨cs', o'.ty, o'.tot⟩)) (w.setRow g c')) cs'[q] u := fun v u e1 e2 e3 => by
  refine ⟨u, by rw [← Array.getElem?_toList]; exact e2, ?_⟩
  have : cs'[q] = v := by
   rw [List.getElem?_eq_getElem hq] at e1
   exact Option.some.inj e1
  rw [this]
  exact e3.keep hz
 by_cases hin : off ≤ q ∧ q < off + l.length
 ·refine key (l[q - off]'(by omega)) (vs.getD (q - off) undef) ?_ ?_ (hv _ _)
  ·rw [← hcs', List.append_assoc, List.getElem?_append_right (by simp; omega), List.getElem?_append_left (by simp; omega)]
   simp only [List.length_take]
   rw [show q - min off o'.cs.length = q - off by omega]
   exact List.getElem?_eq_getElem _
  ·rw [← hc']
   simp only
   rw [List.append_assoc, List.getElem?_append_right (by simp; omega), List.getElem?_append_left (by simp; omega)]
   simp only [List.length_take, Array.length_toList]
   rw [show q - min off c0.size = q - off by omega, List.getD_eq_getElem?_getD, List.getElem?_eq_getElem (by omega)]
   rfl
 ·obtain ⟨x, k1, k2⟩ := h4 q hq'
  refine key _ x ?_ ?_ k2
  ·rw [← hcs']
   by_cases hlt : q < off
   ·rw [List.append_assoc, List.getElem?_append_left (by simp; omega), List.getElem?_take, if_pos hlt]
    exact List.getElem?_eq_getElem _
   ·rw [List.getElem?_append_right (by simp; omega), List.getElem?_drop]
    simp only [List.length_append, List.length_take]
    rw [show off + l.length + (q - (min off o'.cs.length + l.length)) = q by omega]
    exact List.getElem?_eq_getElem _
  ·rw [← hc']
   simp only
   rw [← Array.getElem?_toList] at k1
   by_cases hlt : q < off
   ·rw [List.append_assoc, List.getElem?_append_left (by simp; omega), List.getElem?_take, if_pos hlt]
    exact k1
   ·rw [List.getElem?_append_right (by simp; omega), List.getElem?_drop]
    simp only [List.length_append, List.length_take, Array.length_toList]
    rw [show off + vs.length + (q - (min off c0.size + vs.length)) = q by omega]
    exact k1

theorem R.swap (hr : R B s a w) {i : Nat} {e e' : Ent} (hi : s.hp[i]? = some e) (hblk : e'.blk = e.blk) (hE : ∀ Z, EntR w Z e → EntR w Z e') : R B ⟨s.sl, s.hp.set i e', s.k⟩ a w := by
 have hil := (List.getElem?_eq_some_iff.1 hi).1
 have hm : ∀ (j : Nat) (p : Ent), (s.hp.set i e')[j]? = some p → ∃ p', s.hp[j]? = some p' ∧ p'.blk = p.blk ∧ (p' = p ∨ (p' = e ∧ p = e')) := fun j p hp => by
  by_cases h : i = j
  ·subst h
   rw [List.getElem?_set_self hil] at hp
   cases hp
   exact ⟨e, hi, hblk.symm, .inr ⟨rfl, rfl⟩⟩
  ·rw [List.getElem?_set_ne h] at hp
   exact ⟨p, hp, rfl, .inl rfl⟩
 have hz : ∀ b, Zn B s.hp w b → Zn B (s.hp.set i e') w b := fun b hb => ⟨hb.1, fun q hq => by
  obtain ⟨j, hj⟩ := List.mem_iff_getElem?.1 hq
  obtain ⟨q', r1, r2, _⟩ := hm j q hj
  rw [← r2]; exact hb.2.1 q' (List.mem_of_getElem? r1), hb.2.2⟩
 refine ⟨fun t x hx => (hr.slots t x hx).keep fun b hb _ => ⟨rfl, hz b hb⟩, hr.size, hr.defs, fun p hp => ?_, ?_, hr.chg, fun p hp g' hg => ?_, hr.res⟩
 ·obtain ⟨j, hj⟩ := List.mem_iff_getElem?.1 hp
  obtain ⟨p', k1, k2, k3⟩ := hm j p hj
  have hE1 := hr.blocks p' (List.mem_of_getElem? k1)
  rcases k3 with rfl | ⟨rfl, rfl⟩
  ·exact hE1.keep (fun b hb _ => ⟨rfl, hz b hb⟩) fun _ _ => rfl
  ·exact (hE _ hE1).keep (fun b hb _ => ⟨rfl, hz b hb⟩) fun _ _ => rfl
 ·refine Apart.of fun j1 j2 p q hij hp hq g' hg1 hg2 => ?_
  obtain ⟨p', k1, k2, _⟩ := hm j1 p hp
  obtain ⟨q', r1, r2, _⟩ := hm j2 q hq
  exact hr.nodup.get k1 r1 (by omega) (k2.trans hg1) (r2.trans hg2)
 ·obtain ⟨j, hj⟩ := List.mem_iff_getElem?.1 hp
  obtain ⟨p', k1, k2, _⟩ := hm j p hj
  exact hr.own p' (List.mem_of_getElem? k1) g' (k2.trans hg)
theorem OpE.clear {x : Operand} {T e i n sz g off cap : Nat} {o' : Own'} {z : Value} (ho : o.op = .call { callee := .builtin .clear, args := #[x], argTypes := #[T] }) (hB : B.Ok) (hd : okd B.nt o.dst = true)
  (hu : P.underlying T = some (.slice e)) (hz : ∀ w, (zeroValue e).run P w = .ok z w) (hzs : z.cells.size = sz) (hz1 : ∀ v ∈ z.cells.toList, v.oneCell' = true) (hx : evO s x = some (.v (.slice (some ⟨g, off, none⟩) n cap))) (hi : s.hp[i]? = some (.box g o'))
  (hfit : off + n * sz ≤ o'.cs.length) (hW : W g)
  (hK : K ((St'.mk s.sl (s.hp.set i (.box g ⟨o'.cs.take off, o'.ty, o'.tot⟩)) s.k).put o.dst (.tup []))) : OpE P B W s o K := by
 intro a w hr next Qx hn
 obtain ⟨c0, h1, h2, h3, h4⟩ := hr.blocks _ (List.mem_of_getElem? hi)
 generalize hvs : (Builtin.zeroCells z.cells n).toList = vs
 have hvl : vs.length = n * sz := by rw [← hvs, Array.length_toList, size_zeroCells, hzs]
 have hvone : ∀ v ∈ vs, v.oneCell' = true := fun v hv => by
  rw [← hvs] at hv
  simp only [Builtin.zeroCells, Array.toList_map, List.mem_map] at hv
  obtain ⟨j, hj, rfl⟩ := hv
  by_cases hzz : z.cells.size = 0
  ·have : vs.length = 0 := by rw [hvl, ← hzs, hzz, Nat.mul_zero]
   have h0 : (Array.range (n * z.cells.size)).toList = [] := by simp [hzz]
   rw [h0] at hj; cases hj
  ·have hlt : j % z.cells.size < z.cells.size := Nat.mod_lt _ (by omega)
   rw [getElem!_pos z.cells _ hlt]
   exact hz1 _ (by simp)
 have hsp := hr.splice hB (off := off) (l := vs.map .v) (vs := vs) hi h1 (by simp) (fun j hj => by
  simp at hj
  rw [List.getElem_map, List.getD_eq_getElem?_getD, List.getElem?_eq_getElem hj]
  exact .v _) (by rw [List.length_map, hvl]; exact hfit)
 have hst := run_storeCells_at P g off o'.ty vs 0 c0 w h1 (by rw [hvl]; omega) hvone
 simp only [Nat.add_zero] at hst
 have hil := (List.getElem?_eq_some_iff.1 hi).1
 have hsh := hsp.swap (i := i) (e := .box g ⟨o'.cs.take off ++ vs.map .v ++ o'.cs.drop (off + (vs.map AV.v).length), o'.ty, o'.tot⟩) (e' := .box g ⟨o'.cs.take off, o'.ty, o'.tot⟩) (by simp [hil]) rfl (fun Z hE => by
  obtain ⟨c, e1, e2, e3, e4⟩ := hE
  refine ⟨c, e1, e2, by simp only at e3 ⊢; simp only [List.length_append, List.length_take] at e3 ⊢; omega, fun q hq => ?_⟩
  have hq' : q < off ∧ q < o'.cs.length := by simp at hq; omega
  obtain ⟨u, r1, r2⟩ := e4 q (by simp; omega)
  refine ⟨u, r1, ?_⟩
  simp only at r2 ⊢
  rw [List.getElem_append_left (by simp; omega), List.getElem_append_left (by simp; omega)] at r2
  exact r2)
 simp only [List.set_set] at hsh
 have hrun : (Builtin.clear_ #[T] o.type #[.slice (some ⟨g, off, none⟩) n cap]).run P w = .ok (.tuple #[]) (w.setRow g (c0.toList.take off ++ vs ++ c0.toList.drop (off + vs.length)).toArray) := by
  cases n with
  | zero =>
   have : vs = [] := List.eq_nil_of_length_eq_zero (by rw [hvl]; simp)
   subst this
   have hs := setRow_self w g c0 o'.ty (0, 0) h1
   simp [Builtin.clear_, run_underlying hu, hs]
  | succ n => simp [Builtin.clear_, run_underlying hu, hz, hvs, hst]
 unfold Oper.wp
 simp only [execOp, ho, resolve, invoke, builtin, List.map_toArray, List.map_cons, List.map_nil, hr.evv hx, Sem.run_bind, Sem.run_pure, Result.andThen_ok, hrun]
 exact hn _ _ _ hK (hsh.put _ hd _ _ (.tup _ _ rfl fun j hj => by simp at hj)) ((chg_setRow w g _).mono fun b _ h => .inr (by cases h; exact hW))

theorem OpE.appendP {x y : Operand} {T e i n m sz bytes : Nat} {u z : Value} {cs cs' : List AV} {F : Nat → AV} (ho : o.op = .call { callee := .builtin .append, args := #[x, y], argTypes := #[T, T] }) (hB : B.Ok) (hd : okd B.nt o.dst = true)
  (hu : P.underlying T = some (.slice e)) (hinfo : (P.info? e).map (fun i => (i.zero, i.size, i.bytes)) = some (some z, sz, bytes)) (hz : z.cells.size = sz) (hsz : 0 < sz) (hby : bytes ≤ 4096)
  (hx : evO s x = some (.v u)) (hi : s.hp[i]? = some (.row u n sz cs e)) (hy : SrcP P B s y m sz F) (hone : ∀ j, j < m * sz → (F j).one = true) (hlen : n + m ≤ 10000000000) (hcs : cs ++ tab (m * sz) F = cs') (hW : ∀ g, u.ownBlock = some g → W g)
  (hK : ∀ u', K ((St'.mk s.sl (s.hp.set i (.row u' (n + m) sz cs' e)) s.k).put o.dst (.v u'))) : OpE P B W s o K := by
 subst hcs
 obtain ⟨ii, hii, hz0, hz1, hz2⟩ := info_parts hinfo
 intro a w hr next Qx hn
 have hmem := List.mem_of_getElem? hi
 obtain ⟨ad, cap2, v2, hv, hnil, hsrc⟩ := hy a w hr
 obtain ⟨hl0, hrow⟩ := hr.blocks _ hmem
 have hil := (List.getElem?_eq_some_iff.1 hi).1
 by_cases hm0 : m = 0
 ·subst hm0
  have hset : s.hp.set i (.row u (n + 0) sz (cs ++ tab (0 * sz) F) e) = s.hp := by
   rw [Nat.zero_mul]
   simp only [tab, List.append_nil, Nat.add_zero]
   apply List.ext_getElem?
   intro j
   rw [List.getElem?_set]
   split
   ·rename_i h; subst h; first | (rw [if_pos hil]; exact hi.symm) | exact hi.symm
   ·rfl
  have hrun : (Builtin.append_ #[T, T] o.type #[u, .slice ad 0 cap2]).run P w = .ok u w := by
   have hf : ∀ w, (Builtin.firstCells sz 0 (.slice ad 0 cap2)).run P w = .ok #[] w := fun w => by
    cases ad with
    | none => rfl
    | some x0 =>
     have := run_loadCells_list (P := P) w x0 [] (fun j v hj => by simp at hj)
     simpa [Builtin.firstCells] using this
   subst hz1
   rcases hrow with ⟨rfl, rfl⟩ | ⟨g, cap, c, rfl, k1, k2, k3, k4, k5⟩
   ·simp [Builtin.append_, run_underlying hu, sizeOf, typeInfo, hii, Builtin.lenOf, hf]
   ·simp [Builtin.append_, run_underlying hu, sizeOf, typeInfo, hii, Builtin.lenOf, hf, k1, storeCells]
  have := hK u
  rw [hset] at this
  unfold Oper.wp
  simp only [execOp, ho, resolve, invoke, builtin, List.map_toArray, List.map_cons, List.map_nil, hr.evv hx, hv, Sem.run_bind, Sem.run_pure, Result.andThen_ok, hrun]
  exact hn _ _ _ this (hr.put _ hd _ _ (.v _)) (Ew.rf _)
 obtain ⟨x0, rfl⟩ : ∃ x0, ad = some x0 := by
  cases ad with
  | none => exact absurd (hnil rfl).1 hm0
  | some x0 => exact ⟨x0, rfl⟩
 obtain ⟨old, hrow', hold⟩ : ∃ old : Nat → Value, ((u = .slice none 0 0 ∧ n = 0) ∨ ∃ g cap c, u = .slice (some ⟨g, 0, none⟩) n cap ∧ n ≤ cap ∧ cap ≤ maxLen ∧ w.heap[g]? = some (.cells c e (0, 0)) ∧ c.size = cap * sz ∧ ∀ j, j < n * sz → c[j]? = some (old j)) ∧
   ∀ j, (h : j < cs.length) → Rep w (Zn B s.hp w) cs[j] (old j) := by
  rcases hrow with ⟨h, rfl⟩ | ⟨g, cap, c, h, k1, k2, k3, k4, k5⟩
  ·exact ⟨fun _ => undef, .inl ⟨h, rfl⟩, fun j hj => by omega⟩
  ·refine ⟨fun j => c.getD j undef, .inr ⟨g, cap, c, h, k1, k2, k3, k4, fun j hj => ?_⟩, fun j hj => ?_⟩
   ·obtain ⟨x, q1, _⟩ := k5 j (by omega)
    exact getD_lt (Array.getElem?_eq_some_iff.1 q1).1
   ·obtain ⟨x, q1, q2⟩ := k5 j hj
    simp only
    rw [show c.getD j undef = x by rw [Array.getD_eq_getD_getElem?, q1]; rfl]
    exact q2
 obtain ⟨g, cap, w', c, hrun, e1, e2', e3, e4, e5, e6, e7, e8⟩ := append_run (P := P) w T o.type e ii z sz bytes hu hii hz0 hz1 hz2 hz hsz hby u n old hrow' x0 m cap2 v2
  (fun j hj => (hsrc x0 rfl j hj).1) (fun j hj => (hsrc x0 rfl j hj).2.oneC (hone j hj)) (by omega) hlen
 have hblk : (Ent.row (.slice (some ⟨g, 0, none⟩) (n + m) cap) (n + m) sz (cs ++ tab (m * sz) F) e).blk = (Ent.row u n sz cs e).blk ∨ ∃ g', (Ent.row (.slice (some ⟨g, 0, none⟩) (n + m) cap) (n + m) sz (cs ++ tab (m * sz) F) e).blk = some g' ∧ w.heap.size ≤ g' := by
  rcases e8 with e8 | e8
  ·exact .inl (by simp only [Ent.blk]; rw [e8]; rfl)
  ·exact .inr ⟨g, rfl, e8⟩
 have hr' := hr.set hB hi (e' := .row (.slice (some ⟨g, 0, none⟩) (n + m) cap) (n + m) sz (cs ++ tab (m * sz) F) e) e7 hblk (by
  have hz : ∀ b, Zn B s.hp w b → b < w.heap.size → w'.heap[b]? = w.heap[b]? ∧ Zn B (s.hp.set i (.row (.slice (some ⟨g, 0, none⟩) (n + m) cap) (n + m) sz (cs ++ tab (m * sz) F) e)) w' b := fun b hb hbl => by
   refine ⟨e7.block b hbl fun h => hb.2.1 _ hmem h, Nat.lt_of_lt_of_le hbl e7.size, fun p hp => ?_, hb.2.2⟩
   rcases List.mem_or_eq_of_mem_set hp with hp | hp
   ·exact hb.2.1 p hp
   ·subst hp
    rcases hblk with h | ⟨g', h, hg'⟩
    ·rw [h]; exact hb.2.1 _ hmem
    ·rw [h]; intro h'; simp at h'; omega
  refine ⟨by rw [List.length_append, hl0, tab_len, Nat.add_mul], .inr ⟨g, cap, c, rfl, e1, e2', e3, e4, fun j hj => ?_⟩⟩
  by_cases hjl : j < cs.length
  ·rw [List.getElem_append_left hjl]
   exact ⟨old j, e5 j (by omega), (hold j hjl).keep hz⟩
  ·rw [List.getElem_append_right (by omega)]
   simp [tab_len] at hj
   refine ⟨v2 (j - cs.length), ?_, ?_⟩
   ·have := e6 (j - cs.length) (by omega)
    rwa [show n * sz + (j - cs.length) = j by omega] at this
   ·rw [tab_get]
    exact (hsrc x0 rfl _ (by omega)).2.keep hz)
 unfold Oper.wp
 simp only [execOp, ho, resolve, invoke, builtin, List.map_toArray, List.map_cons, List.map_nil, hr.evv hx, hv, Sem.run_bind, Sem.run_pure, Result.andThen_ok, hrun]
 exact hn _ _ _ (hK _) (hr'.put _ hd _ _ (.v _)) (e7.mono fun b _ h => .inr (hW b h))

theorem OpE.buildSlice0 {t e sz : Nat} (ho : o.op = .buildSlice t 0 #[]) (hB : B.Ok) (hd : okd B.nt o.dst = true) (hu : P.underlying t = some (.slice e)) (hsz : ∀ w, (sizeOf e).run P w = .ok sz w)
  (hK : ∀ g, K ((St'.mk s.sl (s.hp ++ [.row (.slice (some ⟨g, 0, none⟩) 0 0) 0 sz [] e]) s.k).put o.dst (.v (.slice (some ⟨g, 0, none⟩) 0 0)))) : OpE P B W s o K := by
 intro a w hr next Qx hn
 have h1 := hr.new hB (.cells #[] e) (.row (.slice (some ⟨w.heap.size, 0, none⟩) 0 0) 0 sz [] e) rfl ⟨by simp, .inr ⟨w.heap.size, 0, #[], rfl, Nat.le_refl _, by simp [maxLen], heap_alloc_new w _, by simp, fun j hj => by simp at hj⟩⟩
 have hz0 : ∀ f : Nat → Value, Array.map f (Array.range 0) = #[] := fun f => by
  apply Array.ext (by simp)
  intro i hi
  simp at hi
 have hrun : (execOp a.eval o).run P w = .ok (.value (.slice (some ⟨w.heap.size, 0, none⟩) 0 0)) (w.alloc (.cells #[] e)) := by
  simp only [execOp, ho, Instr.buildSlice, newRow, Sem.run_bind, run_underlying hu, hsz, Result.andThen_ok, Sem.run_pure, Nat.zero_mul, if_true, if_false, hz0]
  simp [Instr.fill, run_newObj_alloc, hz0]
 unfold Oper.wp
 rw [hrun]
 exact hn _ _ _ (hK _) (h1.put _ hd _ _ (.v _)) (.ofN ((Chg.refl _ _).alloc _))

theorem OpE.eqNil {x : Operand} {t u e n sz : Nat} {F : Nat → AV} (ho : o.op = .binOp .eql t x (.const (.slice none 0 0)) u) (hd : okd B.nt o.dst = true) (hu : P.underlying t = some (.slice e)) (hx : evO s x = some (.im n sz F))
  (hK : ∀ b : Bool, (b = true → n = 0) → K (s.put o.dst (avB b))) : OpE P B W s o K := by
 intro a w hr next Qx hn
 have := hr.ev hx
 generalize hv : a.eval x = v at this
 have key : ∃ ad cap, v = .slice ad n cap ∧ (ad = none → n = 0) := by
  cases this with
  | nil => exact ⟨none, 0, rfl, fun _ => rfl⟩
  | im n sz f b off cap c e u hZ h1 h2 hb hc hr' => exact ⟨some ⟨b, off, none⟩, cap, rfl, fun h => (by cases h)⟩
 obtain ⟨ad, cap, rfl, hnil⟩ := key
 have hrun := fun w => Lib.run_eql_slice_nil (P := P) w t e ad n cap 0 0 hu
 have hc : a.eval (.const (.slice none 0 0)) = .slice none 0 0 := rfl
 have hrun' : (execOp a.eval o).run P w = .ok (.value (.bool ad.isNone)) w := by
  simp only [execOp, ho, hv, hc, eqGuard, Sem.run_bind, Sem.run_pure, Result.andThen_ok, hrun]
  simp
 unfold Oper.wp
 rw [hrun']
 exact hn _ _ _ (hK ad.isNone fun h => hnil (by cases ad <;> simp_all)) (hr.put _ hd _ _ (.v _)) (Ew.rf _)
theorem VO.eqNil {ops : Array Oper} {rest : List Oper} {x : Operand} {t u e n sz : Nat} {F : Nat → AV} (hg : o.guard = none) (ho : o.op = .binOp .eql t x (.const (.slice none 0 0)) u) (hd : okd B.nt o.dst = true) (hu : P.underlying t = some (.slice e)) (hx : evO s x = some (.im n sz F))
  (hK : ∀ b : Bool, (b = true → n = 0) → VO P B ops rest Q (s.put o.dst (avB b))) : VO P B ops (o :: rest) Q s := VO.op hg (OpE.eqNil ho hd hu hx hK)

end

theorem SpecR.of_VC {P : Program} {F : FuncId} {fn : Func} {c : Code} (hf : P.funcs[F]? = some fn) (hb : fn.body = some c) {xs : List AV} {n sz : Nat} {cs : List AV} {ty : TypeId} {nt : Nat} (hn : fn.ntmps = nt) (hle : xs.length ≤ nt) (hfl : ∀ x ∈ cs, ∃ v, x = .v v)
  (h : ∀ w A, (B0 w A nt).Ok → VC P (B0 w A nt) c (retS P fn fun y s => ∃ u, y = .v u ∧ .row u n sz cs ty ∈ s.hp) ⟨slots0 0 xs, [], 0⟩) : SpecR P F xs n sz cs ty := fun w us ha =>
 (calls_of_VC (k := 0) hf hb (B := B0 w (fun _ => True) nt) rfl hn.symm ha (fun _ h => h.elim) trivial (by omega) (h w _ (B0.ok _ _ _))).mono fun e w' ⟨y, v, s, a, ⟨u, h0, h1⟩, h2, h3, h4⟩ => by
  subst h0
  have hv := h3.eq_v
  subst hv
  refine ⟨_, h2, ?_, fun g hg => ?_, h4.chg⟩
  ·obtain ⟨k0, k1⟩ := h4.blocks _ h1
   refine ⟨k0, k1.imp id fun ⟨g, cap, c, q1, q2, q3, q4, q5, q6⟩ => ⟨g, cap, c, q1, q2, q3, q4, q5, fun j hj => ?_⟩⟩
   obtain ⟨u, r1, r2⟩ := q6 j hj
   obtain ⟨v', hv'⟩ := hfl _ (List.getElem_mem hj)
   refine ⟨u, r1, ?_⟩
   rw [hv'] at r2 ⊢
   rw [r2.eq_v]
   exact .v _
  ·have : ¬ g < w.heap.size := h4.isNew (fun b h => h) h1 hg
   omega

theorem ArgP.boxS {P : Program} {B : Bs} {s : St'} {x : Operand} {i n g cap : Nat} {xs : List ByteArray} {ty : TypeId} {tot : Nat} (hx : evO s x = some (.v (.slice (some ⟨g, 0, none⟩) n cap))) (hi : s.hp[i]? = some (.box g ⟨strsL xs, ty, tot⟩)) (hn : n = xs.length) (hcap : n ≤ cap) (hm : cap ≤ maxLen) : ArgP P B s x (avStrs xs) :=
 ArgP.box (n := n) (sz := 1) hx hi (by show 0 + n * 1 ≤ (strsL xs).length; rw [strsL_len]; omega) hcap hm fun w Z u h => Rep.strs hn (h.im_congr fun j hj => by rw [Nat.zero_add])
theorem Le.boxS {B : Bs} {s : St'} {t i n g cap : Nat} {xs : List ByteArray} {ty : TypeId} {tot : Nat} (hB : B.Ok) (hnew : True) (ht : look s.sl t = some (.v (.slice (some ⟨g, 0, none⟩) n cap))) (hi : s.hp[i]? = some (.box g ⟨strsL xs, ty, tot⟩)) (hn : n = xs.length) (hcap : n ≤ cap) (hm : cap ≤ maxLen) :
  Le B s ⟨(t, avStrs xs) :: s.sl, s.hp.eraseIdx i, s.k⟩ :=
 Le.box (n := n) (sz := 1) hB hnew ht hi (by show 0 + n * 1 ≤ (strsL xs).length; rw [strsL_len]; omega) hcap hm fun w Z u h => Rep.strs hn (h.im_congr fun j hj => by rw [Nat.zero_add])

class Sx1 (α : Type) [Inhabited α] where
 cell : α → AV
section
variable {α : Type} [Inhabited α] [Sx1 α]
abbrev avM (xs : List α) : AV := .im xs.length 1 fun j => Sx1.cell (xs.getD j default)
def listM (xs : List α) : List AV := xs.map Sx1.cell
theorem Rep.listM {w : World} {Z : Nat → Prop} {xs : List α} {n : Nat} (hn : n = xs.length) {u : Value} (h : Rep w Z (.im n 1 fun j => (listM xs).getD j .any) u) : Rep w Z (avM xs) u := by
 subst hn
 exact h.im_congr fun j hj => by simp at hj; simp [Proofs.YtaaokimiadfidaaGreatDoor.listM, hj]
theorem OpV.slice_M {P : Program} {B : Bs} {W : Nat → Prop} {s : St'} {o : Oper} {t e : Nat} {x : Operand} {lo hi : Option Operand} {l h : Nat} {xs : List α} (ho : o.op = .slice t x lo hi none) (hu : P.underlying t = some (.slice e)) (hsz : ∀ w, (sizeOf e).run P w = .ok 1 w) (hx : evO s x = some (avM xs))
  (hl : BndO s lo 0 l) (hh : BndO s hi xs.length h) (h1 : l ≤ h) (h2 : h ≤ xs.length) : OpV P B W s o (avM ((xs.take h).drop l)) :=
 (OpV.slice_im ho hu hsz hx hl hh h1 h2).recast fun w Z u hr => by
  rw [avM, len_cut h2]
  exact hr.im_congr fun j hj => by rw [Nat.mul_one] at hj ⊢; rw [getD_cut h2 hj]
end
instance : Sx1 (List ByteArray) := ⟨fun x => avStrs x⟩
instance : Sx1 (List Int) := ⟨fun x => avInts x⟩
end Go.Proofs.YtaaokimiadfidaaGreatDoor
namespace Go.Proofs.YtaaokimiadfidaaGreatDoor
open Go.RowKit
set_option linter.unusedVariables false
set_option linter.unusedSimpArgs false

section
variable {P : Program} {B : Bs} {W : Nat → Prop} {s s' : St'} {o : Oper} {K : St' → Prop} {a : Act} {w w' : World} {Q : Exit → St' → Prop}

theorem Le.swap {i : Nat} {e e' : Ent} (hi : s.hp[i]? = some e) (hblk : e'.blk = e.blk) (hE : ∀ w Z, EntR w Z e → EntR w Z e') : Le B s ⟨s.sl, s.hp.set i e', s.k⟩ := fun a w hr => hr.swap hi hblk (hE w)
theorem Le.pickH {hp : List Ent} (ix : List Nat) (hix : ndB ix = true) (h3 : keepIx ix s.hp = hp) : Le B s ⟨s.sl, hp, s.k⟩ := fun a w hr => by
 subst h3
 have hm : ∀ p ∈ keepIx ix s.hp, p ∈ s.hp := fun p hp => by
  rw [keepIx_fm] at hp
  obtain ⟨i, _, hi⟩ := List.mem_filterMap.1 hp
  exact List.mem_of_getElem? hi
 have hz : ∀ b, Zn B s.hp w b → Zn B (keepIx ix s.hp) w b := fun b hb => ⟨hb.1, fun p hp' => hb.2.1 p (hm p hp'), hb.2.2⟩
 refine ⟨fun t x hx => (hr.slots t x hx).keep fun b hb _ => ⟨rfl, hz b hb⟩, hr.size, hr.defs, fun p hp' => (hr.blocks p (hm p hp')).keep (fun b hb _ => ⟨rfl, hz b hb⟩) fun _ _ => rfl, ?_, hr.chg, fun p hp' g hg => hr.own p (hm p hp') g hg, hr.res⟩
 show Apart (keepIx ix s.hp)
 unfold Apart
 rw [keepIx_fm, List.pairwise_filterMap]
 refine (ndB_spec hix).imp fun {i j} hij p hp q hq g hg => hr.nodup.get hp hq hij hg
theorem Le.drop (m : Nat) : Le B s ⟨s.sl, s.hp.drop m, s.k⟩ := fun a w hr => hr.drop (fun _ _ h => h) (List.drop_sublist m s.hp)
theorem VO.asBox {ops : Array Oper} {rest : List Oper} {i n sz : Nat} {u : Value} {cs : List AV} {ty : TypeId} (hi : s.hp[i]? = some (.row u n sz cs ty)) (hn : 0 < n)
  (h : ∀ g cap, u = .slice (some ⟨g, 0, none⟩) n cap → n ≤ cap → cap ≤ maxLen → VO P B ops rest Q ⟨s.sl, s.hp.set i (.box g ⟨cs, ty, cap * sz⟩), s.k⟩) : VO P B ops rest Q s := fun a w hr => by
 obtain ⟨g, cap, h1, h2, h3, h4⟩ := hr.rowBox hi hn
 exact h g cap h1 h2 h3 a w h4

theorem look_k {l : List (Nat × AV)} {t : Nat} {b want : Bool} (h : look l t = some (.v (.bool b))) (hb : b = want) : look l t = some (.v (.bool want)) := hb ▸ h
theorem SpecH.args {F : FuncId} {xs xs' : List AV} {hp : List Ent} {G : AV → List Ent → Prop} (h : SpecH P F xs hp G) (hl : xs'.length = xs.length) (ha : ∀ (j : Nat) (h1 : j < xs'.length) (h2 : j < xs.length) (w : World) (Z : Nat → Prop) (u : Value), Rep w Z xs'[j] u → Rep w Z xs[j] u) : SpecH P F xs' hp G :=
 fun w A us h1 => h w A us ⟨h1.1.trans hl, fun j hj => ha j (by omega) hj _ _ _ (h1.2 j (by omega))⟩
theorem ArgP.nil {x : Operand} {sz : Nat} {F : Nat → AV} (h : evO s x = some (.v (.slice none 0 0))) : ArgP P B s x (.im 0 sz F) := fun a w hr => by
 rw [hr.evv h]
 exact .nil _ _
end
instance : Sx1 (List (List ByteArray)) := ⟨fun x => avM x⟩
instance : Sx1 (List (List Int)) := ⟨fun x => avM x⟩
end Go.Proofs.YtaaokimiadfidaaGreatDoor
namespace Go.Proofs.YtaaokimiadfidaaGreatDoor
open Go.RowKit
set_option linter.unusedVariables false
set_option linter.unusedSimpArgs false
structure Ord (n : Nat) (o : List Int) : Prop where
 nd : o.Nodup
 lt : ∀ x ∈ o, 0 ≤ x ∧ x < n
theorem Ord.nil (n : Nat) : Ord n [] := ⟨List.nodup_nil, fun x h => by simp at h⟩
theorem Ord.snoc {n : Nat} {o : List Int} (h : Ord n o) {q : Nat} (hq : q < n) (hn : (q : Int) ∉ o) : Ord n (o ++ [(q : Int)]) := by
 refine ⟨?_, fun x hx => ?_⟩
 ·rw [List.nodup_append]
  exact ⟨h.nd, by simp, fun a ha b hb => by simp at hb; subst hb; exact fun e => hn (e ▸ ha)⟩
 ·rcases List.mem_append.1 hx with hx | hx
  ·exact h.lt x hx
  ·simp at hx; subst hx; omega
section
variable {τ : Type} (n : Nat) (step : τ → List Int → τ)
def ext : Nat → List Int → τ → τ
 | 0, o, s => step s o
 | d + 1, o, s => (List.range n).foldl (fun (s : τ) (i : Nat) => if (i : Int) ∈ o then s else ext d (o ++ [(i : Int)]) s) s
variable {n step}
end
end Go.Proofs.YtaaokimiadfidaaGreatDoor
namespace Go.Proofs.YtaaokimiadfidaaGreatDoor
set_option linter.unusedVariables false
set_option linter.unusedSimpArgs false
section
variable {α : Type} (lt : α → α → Bool) (d : α)
def OrdL (l : List α) : Prop := l.Pairwise fun a b => lt b a = false
def InvO (l0 : List α) (i : Nat) (l : List α) : Prop := ∃ P R, l = P ++ R ∧ P.length = min i l.length ∧ l.Perm l0 ∧ OrdL lt P
def InvI (l0 : List α) (i j : Nat) (l : List α) : Prop := ∃ P x S R, l = P ++ x :: (S ++ R) ∧ P.length = j ∧ P.length + S.length = i ∧ l.Perm l0 ∧ OrdL lt (P ++ S) ∧ ∀ s ∈ S, lt x s = true
variable {lt d} {l0 l : List α} {i j : Nat}
theorem InvO.len (h : InvO lt l0 i l) : l.length = l0.length := h.choose_spec.choose_spec.2.2.1.length_eq
theorem InvI.len (h : InvI lt l0 i j l) : l.length = l0.length ∧ i < l.length ∧ j ≤ i := by
 obtain ⟨P, x, S, R, h1, h2, h3, h4, _⟩ := h
 refine ⟨h4.length_eq, ?_, by omega⟩
 rw [h1]; simp; omega
theorem InvO.one (l0 : List α) : InvO lt l0 1 l0 := by
 cases l0 with
 | nil => exact ⟨[], [], rfl, by simp, .refl _, .nil⟩
 | cons x r => exact ⟨[x], r, rfl, by simp, .refl _, List.pairwise_singleton _ _⟩
theorem InvO.start (h : InvO lt l0 i l) (hi : i < l.length) : InvI lt l0 i i l := by
 obtain ⟨P, R, h1, h2, h3, h4⟩ := h
 rw [Nat.min_eq_left (by omega)] at h2
 cases R with
 | nil => rw [h1] at hi; simp at hi; omega
 | cons x R => exact ⟨P, x, [], R, h1, h2, by simpa using h2, h3, by simpa using h4, by simp⟩
theorem snocOf {P : List α} (h : 0 < P.length) : ∃ Q y, P = Q ++ [y] := ⟨P.dropLast, P.getLast (by intro e; rw [e] at h; simp at h), (List.dropLast_concat_getLast _).symm⟩
theorem swap_eq {Q T : List α} {x y : α} : ((Q ++ y :: x :: T).set (Q.length + 1) y).set Q.length x = Q ++ x :: y :: T := by
 rw [List.set_append_right _ _ (by omega), show Q.length + 1 - Q.length = 1 by omega, List.set_append_right _ _ (by omega), Nat.sub_self]
 rfl
theorem at0 {Q T : List α} {y : α} : (Q ++ y :: T).getD Q.length d = y := by simp [List.getD_eq_getElem?_getD]
theorem at1 {Q T : List α} {x y : α} : (Q ++ y :: x :: T).getD (Q.length + 1) d = x := by
 simp [List.getD_eq_getElem?_getD, List.getElem?_append_right]
theorem InvI.next (ht : ∀ {a b c : α}, lt a b = true → lt b c = true → lt a c = true) (h : InvI lt l0 i j l) (hj : 0 < j) (hlt : lt (l.getD j d) (l.getD (j - 1) d) = true) :
  InvI lt l0 i (j - 1) ((l.set j (l.getD (j - 1) d)).set (j - 1) (l.getD j d)) := by
 obtain ⟨P, x, S, R, h1, h2, h3, h4, h5, h6⟩ := h
 obtain ⟨Q, y, rfl⟩ := snocOf (P := P) (by omega)
 have hl : l = Q ++ y :: x :: (S ++ R) := by rw [h1]; simp
 have hj' : j = Q.length + 1 := by rw [← h2]; simp
 subst hj'
 rw [hl] at hlt ⊢
 rw [at1, show Q.length + 1 - 1 = Q.length by omega, at0] at hlt
 rw [at1, show Q.length + 1 - 1 = Q.length by omega, at0, swap_eq]
 refine ⟨Q, x, y :: S, R, by simp, rfl, by simp at h3 ⊢; omega, ?_, by simpa using h5, ?_⟩
 ·rw [hl] at h4
  exact ((List.Perm.swap y x (S ++ R)).append_left Q).trans h4
 ·intro s hs
  rcases List.mem_cons.1 hs with rfl | hs
  ·exact hlt
  ·exact h6 s hs
theorem InvI.done (ha : ∀ {a b : α}, lt a b = true → lt b a = false) (hn : ∀ {a b c : α}, lt b a = false → lt c b = false → lt c a = false) (h : InvI lt l0 i j l) (hx : j = 0 ∨ lt (l.getD j d) (l.getD (j - 1) d) = false) : InvO lt l0 (i + 1) l := by
 obtain ⟨P, x, S, R, h1, h2, h3, h4, h5, h6⟩ := h
 refine ⟨P ++ x :: S, R, by rw [h1]; simp, by rw [h1]; simp; omega, h4, ?_⟩
 unfold OrdL at h5 ⊢
 obtain ⟨k1, k2, k3⟩ := List.pairwise_append.1 h5
 refine List.pairwise_append.2 ⟨k1, List.pairwise_cons.2 ⟨fun s hs => ha (h6 s hs), k2⟩, fun a hA b hb => ?_⟩
 rcases List.mem_cons.1 hb with rfl | hb
 ·rcases hx with hx | hx
  ·subst hx; rw [List.eq_nil_of_length_eq_zero h2] at hA; cases hA
  ·obtain ⟨Q, y, rfl⟩ := snocOf (P := P) (List.length_pos_of_mem hA)
   have hl : l = Q ++ y :: b :: (S ++ R) := by rw [h1]; simp
   have hj' : j = Q.length + 1 := by rw [← h2]; simp
   subst hj'
   rw [hl, at1, show Q.length + 1 - 1 = Q.length by omega, at0] at hx
   rcases List.mem_append.1 hA with hA | hA
   ·have := (List.pairwise_append.1 k1).2.2 a hA y (by simp)
    exact hn this hx
   ·simp at hA; subst hA; exact hx
 ·exact k3 a hA b hb
theorem InvO.all (h : InvO lt l0 i l) (hi : l.length ≤ i) : l.Perm l0 ∧ OrdL lt l := by
 obtain ⟨P, R, h1, h2, h3, h4⟩ := h
 rw [Nat.min_eq_right hi] at h2
 have : R = [] := by rw [h1] at h2; simpa using h2
 subst this
 rw [List.append_nil] at h1
 subst h1
 exact ⟨h3, h4⟩
end
end Go.Proofs.YtaaokimiadfidaaGreatDoor
namespace Go.Proofs.YtaaokimiadfidaaGreatDoor
open Go.RowKit
set_option linter.unusedVariables false
set_option linter.unusedSimpArgs false
def cmpB (a b : ByteArray) : Int := Lib.compareBytes a.data.toList b.data.toList
theorem strings_Compare_S {a b : ByteArray} : SpecN Tryz.prog 150 [avS a, avS b] (fun y => y = avI (cmpB a b)) := by
 intro w us ha
 rw [argsV2 ha]
 refine (Tryz.strings_Compare a b w).mono ?_
 rintro e w' ⟨rfl, rfl⟩
 exact ⟨_, _, rfl, rfl, .v _, Chg.refl _ _, trivial⟩
theorem cmp_lt : ∀ x y : List UInt8, decide (Lib.compareBytes x y < 0) = Op.bytesLess x y
 | [], [] => rfl
 | [], _ :: _ => rfl
 | _ :: _, [] => rfl
 | a :: x, b :: y => by
  unfold Lib.compareBytes Op.bytesLess
  have ih := cmp_lt x y
  by_cases h1 : a < b
  ·simp [h1]
  ·by_cases h2 : b < a
   ·simp [h1, h2]
    intro e; subst e; exact absurd h2 (UInt8.lt_irrefl _)
   ·have e : a = b := UInt8.le_antisymm (UInt8.not_lt.1 h2) (UInt8.not_lt.1 h1)
    subst e
    simp [UInt8.lt_irrefl]
    simpa using ih
theorem cmpB_lt (a b : ByteArray) : decide (cmpB a b < 0) = sLt a b := by
 unfold sLt
 rw [Lib.toList_data, Lib.toList_data]
 exact cmp_lt _ _
section
variable {α : Type} {k : α → ByteArray}
end
end Go.Proofs.YtaaokimiadfidaaGreatDoor
namespace Go.Proofs.YtaaokimiadfidaaGreatDoor
open Go.RowKit
set_option linter.unusedVariables false
set_option linter.unusedSimpArgs false

def mE {κ α : Type} (kv : κ → Value) (E : α → AV) : List (κ × α) → Nat → List (Value × AV × Nat)
 | [], _ => []
 | p :: r, j => (kv p.1, E p.2, j) :: mE kv E r (j + 1)
abbrev mapE {κ α : Type} (kv : κ → Value) (g : Nat) (E : α → AV) (l : List (κ × α)) : Ent := .mp g (mE kv E l 0) l.length
def mget {κ α : Type} [DecidableEq κ] : List (κ × α) → κ → Option α
 | [], _ => none
 | p :: r, k => if k = p.1 then some p.2 else mget r k
def mput {κ α : Type} [DecidableEq κ] : List (κ × α) → κ → α → List (κ × α)
 | [], k, x => [(k, x)]
 | p :: r, k, x => if k = p.1 then (k, x) :: r else p :: mput r k x
def mpos {κ α : Type} [DecidableEq κ] : List (κ × α) → κ → Nat
 | [], _ => 0
 | p :: r, k => if k = p.1 then 0 else mpos r k + 1
section
variable {κ α : Type} {kv : κ → Value} {E : α → AV}
theorem mE_len : ∀ (l : List (κ × α)) (i : Nat), (mE kv E l i).length = l.length
 | [], _ => rfl
 | _ :: r, i => by simp [mE, mE_len r]
theorem mE_get : ∀ (l : List (κ × α)) (i j : Nat) (h : j < l.length), (mE kv E l i)[j]? = some (kv (l[j]).1, E (l[j]).2, i + j)
 | [], _, _, h => by simp at h
 | p :: r, i, 0, _ => by simp [mE]
 | p :: r, i, j + 1, h => by
  simp only [mE, List.getElem?_cons_succ, List.getElem_cons_succ]
  rw [mE_get r (i + 1) j (by simpa using h)]
  congr 3; omega
theorem mE_born : ∀ (l : List (κ × α)) (i : Nat), (mE kv E l i).map (·.2.2) = List.range' i l.length
 | [], _ => rfl
 | p :: r, i => by simp [mE, mE_born r, List.range'_succ]
variable [DecidableEq κ]
theorem mpos_le : ∀ (l : List (κ × α)) (k : κ), mpos l k ≤ l.length
 | [], _ => Nat.le_refl _
 | p :: r, k => by
  have := mpos_le r k
  simp only [mpos, List.length_cons]; split <;> omega
theorem mget_pos : ∀ (l : List (κ × α)) (k : κ), mget l k = (l[mpos l k]?).map (·.2)
 | [], _ => rfl
 | p :: r, k => by
  simp only [mget, mpos]
  split
  ·rfl
  ·rw [mget_pos r k]; simp
theorem mpos_key : ∀ (l : List (κ × α)) (k : κ) (h : mpos l k < l.length), (l[mpos l k]).1 = k
 | [], _, h => by simp at h
 | p :: r, k, h => by
  by_cases e : k = p.1
  ·simp [mpos, e]
  ·simp only [mpos, if_neg e, List.getElem_cons_succ]
   exact mpos_key r k (by simp only [mpos, if_neg e, List.length_cons] at h; omega)
theorem mpos_ne : ∀ (l : List (κ × α)) (k : κ) (j : Nat) (h : j < mpos l k), ∃ h' : j < l.length, (l[j]).1 ≠ k
 | [], _, j, h => by simp [mpos] at h
 | p :: r, k, j, h => by
  by_cases e : k = p.1
  ·simp [mpos, e] at h
  ·simp only [mpos, if_neg e] at h
   cases j with
   | zero => exact ⟨by simp, fun h' => e h'.symm⟩
   | succ j => obtain ⟨h1, h2⟩ := mpos_ne r k j (by omega); exact ⟨by simpa using h1, by simpa using h2⟩
theorem mput_new : ∀ (l : List (κ × α)) (k : κ) (x : α), mpos l k = l.length → mput l k x = l ++ [(k, x)]
 | [], _, _, _ => rfl
 | p :: r, k, x, h => by
  by_cases e : k = p.1
  ·simp [mpos, e] at h
  ·simp only [mpos, if_neg e, List.length_cons] at h
   simp only [mput, if_neg e, List.cons_append]
   rw [mput_new r k x (by omega)]
theorem mput_old : ∀ (l : List (κ × α)) (k : κ) (x : α), mpos l k < l.length → mput l k x = l.set (mpos l k) (k, x)
 | [], _, _, h => by simp at h
 | p :: r, k, x, h => by
  by_cases e : k = p.1
  ·simp [mput, mpos, e]
  ·simp only [mpos, if_neg e, List.length_cons] at h
   simp only [mput, mpos, if_neg e, List.set_cons_succ]
   rw [mput_old r k x (by omega)]
theorem mput_len (l : List (κ × α)) (k : κ) (x : α) : (mput l k x).length = if mpos l k < l.length then l.length else l.length + 1 := by
 split
 ·rename_i h; rw [mput_old l k x h]; simp
 ·rename_i h; rw [mput_new l k x (by have := mpos_le l k; omega)]; simp
end

structure KeyOk (P : Program) (kt : TypeId) {κ : Type} [DecidableEq κ] (kv : κ → Value) : Prop where
 check : ∀ (e : Bool) (k : κ) (w : World), (Instr.checkKey e 10000 kt (kv k)).run P w = .ok () w
 find : ∀ {α : Type} (l : List (κ × α)) (c : List MapEntry) (k : κ) (w : World), c.length = l.length → (∀ j (h : j < l.length), ∃ e, c[j]? = some e ∧ e.key = kv (l[j]).1) →
  (Instr.findKey kt (kv k) c).run P w = .ok (if mpos l k < l.length then (c[mpos l k]?).map fun e => (mpos l k, e.val) else none) w
 stay : ∀ (k : κ) (w : World), (Instr.keyThatStays (kv k) (kv k)).run P w = .ok (kv k) w
theorem findNow_str {α : Type} : ∀ (l : List (ByteArray × α)) (c : List MapEntry) (k : ByteArray), c.length = l.length → (∀ j (h : j < l.length), ∃ e, c[j]? = some e ∧ e.key = .string (l[j]).1) →
  ∀ i, Instr.findNow .string (.string k) c i = some (if mpos l k < l.length then (c[mpos l k]?).map fun e => (i + mpos l k, e.val) else none)
 | [], c, k, hl, h, i => by
  have : c = [] := List.eq_nil_of_length_eq_zero (by simpa using hl)
  subst this; rfl
 | p :: r, [], k, hl, h, i => by simp at hl
 | p :: r, e :: c, k, hl, h, i => by
  obtain ⟨e0, h1, h2⟩ := h 0 (by simp)
  simp at h1 h2
  subst h1
  simp only [Instr.findNow, h2, Instr.sameNow]
  by_cases ek : k = p.1
  ·have : (k == p.1) = true := by rw [bA_beq]; exact decide_eq_true ek
   rw [this]
   simp [mpos, ek]
  ·have : (k == p.1) = false := by rw [bA_beq]; exact decide_eq_false ek
   rw [this]
   simp only
   rw [findNow_str r c k (by simpa using hl) (fun j hj => h (j + 1) (Nat.succ_lt_succ hj)) (i + 1)]
   simp only [mpos, if_neg ek, List.length_cons, Nat.add_lt_add_iff_right, List.getElem?_cons_succ]
   rw [show i + 1 + mpos r k = i + (mpos r k + 1) by omega]
theorem KeyOk.str {P : Program} {kt : TypeId} (hk : P.underlying kt = some .string) : KeyOk P kt (fun k : ByteArray => Value.string k) where
 check e k w := by
  rw [show (10000 : Nat) = 9999 + 1 from rfl, Instr.checkKey]
  simp only [Sem.run_bind, run_underlying hk, Result.andThen_ok, Sem.run_pure]
 find l c k w hl h := by
  have := findNow_str l c k hl h 0
  simp only [Nat.zero_add] at this
  simp only [Instr.findKey, Sem.run_bind, run_underlying hk, Result.andThen_ok, this, Sem.run_pure]
 stay k w := by
  have : Instr.sameBits 10000 (.string k) (.string k) = true := by
   simp only [Instr.sameBits, bA_beq, decide_true]
  simp [Instr.keyThatStays, this]
end Go.Proofs.YtaaokimiadfidaaGreatDoor
namespace Go.Proofs.YtaaokimiadfidaaGreatDoor
open Go.RowKit
set_option linter.unusedVariables false
set_option linter.unusedSimpArgs false

theorem getMap {P : Program} {w : World} {r : Nat} {es : Array MapEntry} {clock : Nat} (hb : w.heap[r]? = some (.map es clock)) : (getObj r).run P w = .ok (.map es clock) w := by
 simp [getObj, Sem.run, hb]
theorem putMap {P : Program} {w : World} {r : Nat} {es : Array MapEntry} {clock : Nat} (c : Array MapEntry) (clk : Nat) (hb : w.heap[r]? = some (.map es clock)) : (setObj r (.map c clk)).run P w = .ok () { w with heap := w.heap.setIfInBounds r (.map c clk) } := by
 simp [setObj, Sem.run, hb]
def _root_.Go.World.setMp (w : World) (g : Nat) (c : Array MapEntry) (clk : Nat) : World := { w with heap := w.heap.setIfInBounds g (.map c clk) }
theorem setMp_heap (w : World) (g : Nat) (c c' : Array MapEntry) (clk clk' : Nat) (h : w.heap[g]? = some (.map c clk)) : (w.setMp g c' clk').heap[g]? = some (.map c' clk') := by
 have := (Array.getElem?_eq_some_iff.1 h).1
 simp [World.setMp, this]
theorem setMp_other (w : World) (g b : Nat) (c' : Array MapEntry) (clk' : Nat) (h : b ≠ g) : (w.setMp g c' clk').heap[b]? = w.heap[b]? := by
 simp only [World.setMp]
 exact Array.getElem?_setIfInBounds_ne (fun e => h e.symm)
theorem chg_setMp (w : World) (g : Nat) (c : Array MapEntry) (clk : Nat) : Chg (fun b => some g = some b) w (w.setMp g c clk) :=
 ⟨rfl, rfl, rfl, by simp [World.setMp], fun k _ hk => setMp_other w g k c clk (fun e => hk (by rw [e]))⟩
section
variable {P : Program} {B : Bs} {W : Nat → Prop} {s s' : St'} {o : Oper} {K : St' → Prop} {a : Act} {w w' : World}
variable {κ α : Type} {kv : κ → Value} {E : α → AV}

def KeyE (B : Bs) (s : St') (x : Operand) (v : Value) : Prop := ∀ a w, R B s a w → a.eval x = v
theorem KeyE.v {x : Operand} {v : Value} (h : evO s x = some (.v v)) : KeyE B s x v := fun a w hr => hr.evv h
theorem KeyE.agg2 {x : Operand} {v1 v2 : Value} (h : evO s x = some (.agg [.v v1, .v v2])) : KeyE B s x (.agg #[v1, v2]) := fun a w hr => by
 have := hr.ev h
 generalize hv : a.eval x = u at this
 cases this with
 | agg cs us hl hr =>
  have h0 := (hr 0 (by simp)).eq_v
  have h1 := (hr 1 (by simp)).eq_v
  simp at hl
  congr 1
  apply Array.ext (by simp [hl])
  intro i hi1 hi2
  simp [hl] at hi1
  match i, hi1 with
  | 0, _ => simpa [hl] using h0
  | 1, _ => simpa [hl] using h1

theorem EntR.toMap {g : Nat} {l : List (κ × α)} {Z : Nat → Prop} (h : EntR w Z (mapE kv g E l)) : ∃ c : Array MapEntry, w.heap[g]? = some (.map c l.length) ∧ c.size = l.length ∧ ∀ j (hj : j < l.length), (c[j]!).key = kv (l[j]).1 ∧ (c[j]!).born = j ∧ Rep w Z (E (l[j]).2) (c[j]!).val := by
 obtain ⟨c, h1, h2, h3, h4⟩ := h
 rw [mE_len] at h2
 refine ⟨c, h1, h2, fun j hj => ?_⟩
 obtain ⟨k1, k2, k3, k4⟩ := h4 j (by rw [mE_len]; exact hj)
 have e := mE_get (kv := kv) (E := E) l 0 j hj
 rw [List.getElem?_eq_getElem (by rw [mE_len]; exact hj)] at e
 have e := Option.some.inj e
 rw [e] at k1 k2 k4
 exact ⟨k1, by simpa using k2, k4⟩
theorem EntR.ofMap {g : Nat} {l : List (κ × α)} {Z : Nat → Prop} {c : Array MapEntry} (h1 : w.heap[g]? = some (.map c l.length)) (h2 : c.size = l.length) (h3 : ∀ j (hj : j < l.length), (c[j]!).key = kv (l[j]).1 ∧ (c[j]!).born = j ∧ Rep w Z (E (l[j]).2) (c[j]!).val) : EntR w Z (mapE kv g E l) := by
 refine ⟨c, h1, by rw [mE_len]; exact h2, by rw [mE_born]; exact List.nodup_range', fun j hj => ?_⟩
 have hj' := hj
 rw [mE_len] at hj'
 have e := mE_get (kv := kv) (E := E) l 0 j hj'
 rw [List.getElem?_eq_getElem hj] at e
 have e := Option.some.inj e
 rw [e]
 obtain ⟨k1, k2, k3⟩ := h3 j hj'
 exact ⟨k1, by simp [k2], by simpa using hj', k3⟩
theorem map_find [DecidableEq κ] {kt : TypeId} (hk : KeyOk P kt kv) {l : List (κ × α)} {Z : Nat → Prop} {c : Array MapEntry} (h2 : c.size = l.length) (h3 : ∀ j (hj : j < l.length), (c[j]!).key = kv (l[j]).1 ∧ (c[j]!).born = j ∧ Rep w Z (E (l[j]).2) (c[j]!).val) (k : κ) (w0 : World) :
  (Instr.findKey kt (kv k) c.toList).run P w0 = .ok (if mpos l k < l.length then some (mpos l k, (c[mpos l k]!).val) else none) w0 := by
 have := hk.find l c.toList k w0 (by simpa using h2) (fun j hj => ⟨c[j]!, by rw [Array.getElem?_toList, getElem!_pos c j (by omega)]; exact Array.getElem?_eq_getElem _, (h3 j hj).1⟩)
 rw [this]
 split
 ·rename_i h
  rw [Array.getElem?_toList, getElem!_pos c _ (by omega), Array.getElem?_eq_getElem (by omega)]
  rfl
 ·rfl

theorem OpE.makeMap {t : TypeId} (kv : κ → Value) (E : α → AV) (ho : o.op = .makeMap t none) (hB : B.Ok) (hd : okd B.nt o.dst = true)
  (hK : ∀ g, K ((St'.mk s.sl (s.hp ++ [mapE kv g E []]) s.k).put o.dst (.v (.map (some g))))) : OpE P B W s o K := by
 intro a w hr next Qx hn
 have h1 := hr.new hB (.map #[] 0) (mapE kv w.heap.size E []) rfl (EntR.ofMap (l := ([] : List (κ × α))) (c := #[]) (heap_alloc_new w _) rfl fun j hj => by simp at hj)
 have hrun : (execOp a.eval o).run P w = .ok (.value (.map (some w.heap.size))) (w.alloc (.map #[] 0)) := by
  simp [execOp, ho, Instr.makeMap, run_newObj_alloc]
 unfold Oper.wp
 rw [hrun]
 exact hn _ _ _ (hK _) (h1.put _ hd _ _ (.v _)) (.ofN ((Chg.refl _ _).alloc _))

theorem OpV.lookup_own [DecidableEq κ] {x y : Operand} {T kt e g i : Nat} {k : κ} {l : List (κ × α)} {z : Value} (ho : o.op = .lookup T x y false) (hB : B.Ok) (hu : P.underlying T = some (.map kt e)) (hko : KeyOk P kt kv) (hz : ∀ w, (zeroValue e).run P w = .ok z w)
  (hx : evO s x = some (.v (.map (some g)))) (hk : KeyE B s y (kv k)) (hi : s.hp[i]? = some (mapE kv g E l)) (hW : ¬ W g) : OpV P B W s o (match mget l k with | some v => E v | none => .v z) := fun a w hr => by
 have hm := List.mem_of_getElem? hi
 obtain ⟨c, h1, h2, h3⟩ := EntR.toMap (hr.blocks _ hm)
 have hf := map_find hko h2 h3 k
 have hg := mget_pos l k
 have hle := mpos_le l k
 by_cases hp : mpos l k < l.length
 ·have e : mget l k = some (l[mpos l k]).2 := by rw [hg, List.getElem?_eq_getElem hp]; rfl
  rw [e]
  refine ⟨(c[mpos l k]!).val, fun w' hcw => ?_, (h3 _ hp).2.2⟩
  have h1' : w'.heap[g]? = some (.map c l.length) := (hcw.block g (hr.lt _ hm g rfl) fun h => h.elim (hr.notStr hB hm rfl) hW).trans h1
  simp [execOp, ho, Instr.lookup, run_underlying hu, hr.evv hx, hk a w hr, getMap h1', hko.check, hf, hp]
 ·have e : mget l k = none := by rw [hg, List.getElem?_eq_none (by omega)]; rfl
  rw [e]
  refine ⟨z, fun w' hcw => ?_, .v _⟩
  have h1' : w'.heap[g]? = some (.map c l.length) := (hcw.block g (hr.lt _ hm g rfl) fun h => h.elim (hr.notStr hB hm rfl) hW).trans h1
  simp [execOp, ho, Instr.lookup, run_underlying hu, hr.evv hx, hk a w hr, getMap h1', hko.check, hf, hp, hz]
theorem modify_at {c : Array MapEntry} {i j : Nat} {f : MapEntry → MapEntry} (h : j < c.size) : (c.modify i f)[j]! = if i = j then f (c[j]!) else c[j]! := by
 rw [getElem!_pos _ j (by simpa using h), getElem!_pos c j h, Array.getElem_modify]
theorem push_at {c : Array MapEntry} {j : Nat} {x : MapEntry} (h : j < c.size + 1) : (c.push x)[j]! = if j < c.size then c[j]! else x := by
 rw [getElem!_pos _ j (by simpa using h), Array.getElem_push]
 split
 ·rename_i h1; rw [getElem!_pos c j h1]
 ·rfl
theorem R.setMap (hB : B.Ok) (hr : R B s a w) {i g : Nat} {l l' : List (κ × α)} {c c' : Array MapEntry} (hi : s.hp[i]? = some (mapE kv g E l)) (h1 : w.heap[g]? = some (.map c l.length)) (h2' : c'.size = l'.length)
  (h3' : ∀ j (hj : j < l'.length), (c'[j]!).key = kv (l'[j]).1 ∧ (c'[j]!).born = j ∧ Rep w (Zn B s.hp w) (E (l'[j]).2) (c'[j]!).val) : R B ⟨s.sl, s.hp.set i (mapE kv g E l'), s.k⟩ a (w.setMp g c' l'.length) := by
 have hm := List.mem_of_getElem? hi
 refine hr.set hB hi (chg_setMp w g c' l'.length) (.inl rfl) (EntR.ofMap (setMp_heap w g c c' _ _ h1) h2' fun j hj => ?_)
 obtain ⟨k1, k2, k3⟩ := h3' j hj
 refine ⟨k1, k2, k3.keep fun b hb hbl => ⟨setMp_other w g b c' _ fun e => hb.2.1 _ hm (by rw [e]; rfl), by simp [World.setMp]; exact hbl, fun p hp => ?_, hb.2.2⟩⟩
 rcases List.mem_or_eq_of_mem_set hp with hp | hp
 ·exact hb.2.1 p hp
 ·subst hp; exact hb.2.1 (mapE kv g E l) hm
theorem OpE.mapUpdate [DecidableEq κ] {x y v : Operand} {T kt e g i : Nat} {k : κ} {xx : α} {l : List (κ × α)} (ho : o.op = .mapUpdate T x y v) (hB : B.Ok) (hd : okd B.nt o.dst = true) (hu : P.underlying T = some (.map kt e)) (hko : KeyOk P kt kv)
  (hx : evO s x = some (.v (.map (some g)))) (hk : KeyE B s y (kv k)) (hv : evO s v = some (E xx)) (hi : s.hp[i]? = some (mapE kv g E l)) (hW : W g)
  (hK : K ((St'.mk s.sl (s.hp.set i (mapE kv g E (mput l k xx))) s.k).put o.dst (.v undef))) : OpE P B W s o K := by
 intro a w hr next Qx hn
 have hm := List.mem_of_getElem? hi
 obtain ⟨c, h1, h2, h3⟩ := EntR.toMap (hr.blocks _ hm)
 have hf := map_find hko h2 h3 k w
 have hle := mpos_le l k
 have hvv := hr.ev hv
 generalize hu' : a.eval v = u at hvv
 by_cases hp : mpos l k < l.length
 ·have hput := mput_old l k xx hp
  have hkey : (((c[mpos l k]?).map (·.key)).getD (kv k)) = kv k := by
   rw [Array.getElem?_eq_getElem (by omega)]
   have := (h3 _ hp).1
   rw [getElem!_pos c _ (by omega)] at this
   simp only [Option.map_some, Option.getD_some, this, mpos_key l k hp]
  have hr' := hr.setMap hB (l' := mput l k xx) (c' := c.modify (mpos l k) fun e => { e with key := kv k, val := u }) hi h1 (by rw [hput]; simp [h2]) (fun j hj => by
   have hj' : j < l.length := by rw [hput] at hj; simpa using hj
   simp only [hput]
   rw [modify_at (by omega)]
   by_cases ej : mpos l k = j
   ·rw [if_pos ej]
    subst ej
    exact ⟨by simp, (h3 _ hp).2.1, by simpa using hvv⟩
   ·rw [if_neg ej, List.getElem_set_ne ej]
    exact h3 j hj')
  have hlen : (mput l k xx).length = l.length := by rw [hput]; simp
  have hrun : (execOp a.eval o).run P w = .ok .skip (w.setMp g (c.modify (mpos l k) fun e => { e with key := kv k, val := u }) (mput l k xx).length) := by
   simp [execOp, ho, Instr.mapUpdate, run_underlying hu, hr.evv hx, hk a w hr, getMap h1, hko.check, hf, hp, hkey, hko.stay, hu', putMap _ _ h1, hlen, World.setMp]
  unfold Oper.wp
  rw [hrun]
  exact hn _ _ _ hK (hr'.put _ hd _ _ (.v _)) ((chg_setMp w g _ _).mono fun b _ h => .inr (by cases h; exact hW))
 ·have hput := mput_new l k xx (by omega)
  have hr' := hr.setMap hB (l' := mput l k xx) (c' := c.push { key := kv k, val := u, born := l.length }) hi h1 (by rw [hput]; simp [h2]) (fun j hj => by
   have hj' : j < l.length + 1 := by rw [hput] at hj; simpa using hj
   simp only [hput]
   rw [push_at (by omega)]
   by_cases ej : j < l.length
   ·rw [if_pos (by omega), List.getElem_append_left ej]
    exact h3 j ej
   ·obtain rfl : j = l.length := by omega
    rw [if_neg (by omega)]
    simpa using hvv)
  have hlen : (mput l k xx).length = l.length + 1 := by rw [hput]; simp
  have hrun : (execOp a.eval o).run P w = .ok .skip (w.setMp g (c.push { key := kv k, val := u, born := l.length }) (mput l k xx).length) := by
   simp [execOp, ho, Instr.mapUpdate, run_underlying hu, hr.evv hx, hk a w hr, getMap h1, hko.check, hf, hp, hu', putMap _ _ h1, hlen, World.setMp]
  unfold Oper.wp
  rw [hrun]
  exact hn _ _ _ hK (hr'.put _ hd _ _ (.v _)) ((chg_setMp w g _ _).mono fun b _ h => .inr (by cases h; exact hW))
def mgetD [DecidableEq κ] (l : List (κ × α)) (k : κ) (z : α) : α := (mget l k).getD z
end
end Go.Proofs.YtaaokimiadfidaaGreatDoor
namespace Go.Proofs.YtaaokimiadfidaaGreatDoor
open Go.RowKit
set_option linter.unusedVariables false
set_option linter.unusedSimpArgs false

inductive EqFs (P : Program) : Nat → List Field → List AV → List AV → Bool → Prop where
 | nil (off : Nat) : EqFs P off [] [] [] true
 | int {off : Nat} {f : Field} {fs : List Field} {k k' : IntKind} {a b : Int} {xs ys : List AV} {r : Bool} (hu : P.underlying f.type = some (.int k')) (hag : ∀ w, (isAgg f.type).run P w = .ok false w) (ho : f.offset = off) (hn : f.name ≠ "_") (h : EqFs P (off + 1) fs xs ys r) :
   EqFs P off (f :: fs) (.v (.int k a) :: xs) (.v (.int k b) :: ys) (decide (a = b) && r)
 | str {off : Nat} {f : Field} {fs : List Field} {a b : ByteArray} {xs ys : List AV} {r : Bool} (hu : P.underlying f.type = some .string) (hag : ∀ w, (isAgg f.type).run P w = .ok false w) (ho : f.offset = off) (hn : f.name ≠ "_") (h : EqFs P (off + 1) fs xs ys r) :
   EqFs P off (f :: fs) (.v (.string a) :: xs) (.v (.string b) :: ys) (sEq a b && r)
 | bool {off : Nat} {f : Field} {fs : List Field} {a b : Bool} {xs ys : List AV} {r : Bool} (hu : P.underlying f.type = some .bool) (hag : ∀ w, (isAgg f.type).run P w = .ok false w) (ho : f.offset = off) (hn : f.name ≠ "_") (h : EqFs P (off + 1) fs xs ys r) :
   EqFs P off (f :: fs) (.v (.bool a) :: xs) (.v (.bool b) :: ys) ((a == b) && r)

theorem EqFs.run {P : Program} {w : World} {Z : Nat → Prop} {us vs : Array Value} {d : Nat} : ∀ {off : Nat} {fs : List Field} {xs ys : List AV} {r : Bool}, EqFs P off fs xs ys r →
  (∀ j, (h : j < xs.length) → off + j < us.size ∧ Rep w Z xs[j] (us.getD (off + j) undef)) → (∀ j, (h : j < ys.length) → off + j < vs.size ∧ Rep w Z ys[j] (vs.getD (off + j) undef)) → ∀ w', (Op.eqFields (d + 1) us vs fs).run P w' = .ok r w' := by
 intro off fs xs ys r h
 have cellP : ∀ (t : TypeId) (us : Array Value) (off : Nat) (v : Value) (w' : World), (∀ w, (isAgg t).run P w = .ok false w) → off < us.size → us.getD off undef = v → (part t us off).run P w' = .ok v w' := fun t us off v w' hag hl hv => by
  have : us[off]? = some v := by rw [← hv, Array.getD_eq_getD_getElem?, Array.getElem?_eq_getElem hl]; rfl
  simp [part, hag, this]
 have sh : ∀ n j : Nat, n + (j + 1) = n + 1 + j := fun n j => by omega
 induction h with
 | nil off => intro _ _ w'; rfl
 | int hu hag ho hn h ih =>
  intro h1 h2 w'
  obtain ⟨k1, k2⟩ := h1 0 (by simp)
  obtain ⟨k3, k4⟩ := h2 0 (by simp)
  subst ho
  have e1 := cellP _ us _ _ w' hag k1 k2.eq_v
  have e2 := cellP _ vs _ _ w' hag k3 k4.eq_v
  have ih' := ih (fun j hj => by have := h1 (j + 1) (by simpa using hj); rw [sh] at this; exact this) (fun j hj => by have := h2 (j + 1) (by simpa using hj); rw [sh] at this; exact this) w'
  simp only [Nat.add_zero] at e1 e2
  rename_i a b _ _ _
  have e3 := fun k => run_equalIn_int (P := P) w' d _ k _ a b hu
  simp only [Op.eqFields, hn, ne_eq, not_false_eq_true, if_true, Sem.run_bind, e1, e2, e3, Result.andThen_ok]
  by_cases hab : a = b
  ·subst hab; simpa using ih'
  ·simp [hab]
 | str hu hag ho hn h ih =>
  intro h1 h2 w'
  obtain ⟨k1, k2⟩ := h1 0 (by simp)
  obtain ⟨k3, k4⟩ := h2 0 (by simp)
  subst ho
  have e1 := cellP _ us _ _ w' hag k1 k2.eq_v
  have e2 := cellP _ vs _ _ w' hag k3 k4.eq_v
  have ih' := ih (fun j hj => by have := h1 (j + 1) (by simpa using hj); rw [sh] at this; exact this) (fun j hj => by have := h2 (j + 1) (by simpa using hj); rw [sh] at this; exact this) w'
  simp only [Nat.add_zero] at e1 e2
  rename_i a b _ _ _
  have e3 := run_equalIn_string (P := P) w' d _ a b hu
  simp only [Op.eqFields, hn, ne_eq, not_false_eq_true, if_true, Sem.run_bind, e1, e2, e3, Result.andThen_ok]
  cases hab : sEq a b with
  | true => unfold sEq at hab; rw [hab]; simpa using ih'
  | false => unfold sEq at hab; rw [hab]; simp
 | bool hu hag ho hn h ih =>
  intro h1 h2 w'
  obtain ⟨k1, k2⟩ := h1 0 (by simp)
  obtain ⟨k3, k4⟩ := h2 0 (by simp)
  subst ho
  have e1 := cellP _ us _ _ w' hag k1 k2.eq_v
  have e2 := cellP _ vs _ _ w' hag k3 k4.eq_v
  have ih' := ih (fun j hj => by have := h1 (j + 1) (by simpa using hj); rw [sh] at this; exact this) (fun j hj => by have := h2 (j + 1) (by simpa using hj); rw [sh] at this; exact this) w'
  simp only [Nat.add_zero] at e1 e2
  rename_i a b _ _ _
  have e3 := run_equalIn_bool' (P := P) w' d _ a b hu
  simp only [Op.eqFields, hn, ne_eq, not_false_eq_true, if_true, Sem.run_bind, e1, e2, e3, Result.andThen_ok]
  cases hab : (a == b) with
  | true => simpa using ih'
  | false => simp

section
variable {P : Program} {B : Bs} {W : Nat → Prop} {s : St'} {o : Oper}
theorem agg_eq {w : World} {Z : Nat → Prop} {t : TypeId} {xs ys : List AV} {u v : Value} {r : Bool} (hu : P.underlying t = some (.struct (P.fieldsOf t))) (hs : P.stoodInHeld t = false) (h : EqFs P 0 (P.fieldsOf t).toList xs ys r) (hx : Rep w Z (.agg xs) u) (hy : Rep w Z (.agg ys) v) :
  ∃ us vs, u = .agg us ∧ v = .agg vs ∧ ∀ w', (Op.equalIn 10000 t u v).run P w' = .ok r w' := by
 cases hx with
 | agg _ us l1 r1 =>
  cases hy with
  | agg _ vs l2 r2 =>
   refine ⟨us, vs, rfl, rfl, fun w' => ?_⟩
   rw [run_equalIn_struct w' 9999 t us vs hu hs]
   exact h.run (w := w) (Z := Z) (fun j hj => ⟨by omega, by rw [Nat.zero_add]; exact r1 j hj⟩) (fun j hj => ⟨by omega, by rw [Nat.zero_add]; exact r2 j hj⟩) w'
end
end Go.Proofs.YtaaokimiadfidaaGreatDoor
namespace Go.Proofs.YtaaokimiadfidaaGreatDoor
open Go.RowKit
set_option linter.unusedVariables false
set_option linter.unusedSimpArgs false
abbrev kv2 : ByteArray × ByteArray → Value := fun k => .agg #[.string k.1, .string k.2]
theorem sEq_dec (a b : ByteArray) : sEq a b = decide (a = b) := by
 by_cases h : a = b
 ·rw [decide_eq_true h]; exact sEq_eq.2 h
 ·rw [decide_eq_false h]
  cases e : sEq a b with
  | false => rfl
  | true => exact absurd (sEq_eq.1 e) h
section
variable {P : Program} {kt : TypeId} {f1 f2 : Field} (hu : P.underlying kt = some (.struct (P.fieldsOf kt))) (hs : P.stoodInHeld kt = false) (hf : P.fieldsOf kt = #[f1, f2]) (h1 : P.underlying f1.type = some .string) (h2 : P.underlying f2.type = some .string)
 (a1 : ∀ w, (isAgg f1.type).run P w = .ok false w) (a2 : ∀ w, (isAgg f2.type).run P w = .ok false w) (o1 : f1.offset = 0) (o2 : f2.offset = 1) (n1 : f1.name ≠ "_") (n2 : f2.name ≠ "_")
include hu hs hf h1 h2 a1 a2 o1 o2 n1 n2
theorem key2_eq (k k' : ByteArray × ByteArray) (w : World) : (Op.equal kt (kv2 k) (kv2 k')).run P w = .ok (decide (k = k')) w := by
 have hE : EqFs P 0 (P.fieldsOf kt).toList [avS k.1, avS k.2] [avS k'.1, avS k'.2] (sEq k.1 k'.1 && (sEq k.2 k'.2 && true)) := by
  rw [hf]
  exact EqFs.str h1 a1 o1 n1 (EqFs.str h2 a2 o2 n2 (EqFs.nil _))
 have rep : ∀ q : ByteArray × ByteArray, Rep w (fun _ => True) (.agg [avS q.1, avS q.2]) (kv2 q) := fun q => .agg _ _ rfl fun j hj => by
  match j, hj with
  | 0, _ => exact .v _
  | 1, _ => exact .v _
 obtain ⟨us, vs, e1, e2, e3⟩ := agg_eq hu hs hE (rep k) (rep k')
 have := e3 w
 have e4 : (sEq k.1 k'.1 && (sEq k.2 k'.2 && true)) = decide (k = k') := by
  rw [sEq_dec, sEq_dec, Bool.and_true]
  obtain ⟨a, b⟩ := k
  obtain ⟨c, d⟩ := k'
  simp [Prod.mk.injEq]
 rw [e4] at this
 exact this
theorem asking2 {α : Type} : ∀ (l : List ((ByteArray × ByteArray) × α)) (c : List MapEntry) (k : ByteArray × ByteArray) (w : World) (i : Nat), c.length = l.length → (∀ j (h : j < l.length), ∃ e, c[j]? = some e ∧ e.key = kv2 (l[j]).1) →
  (Instr.findAsking kt (kv2 k) c i).run P w = .ok (if mpos l k < l.length then (c[mpos l k]?).map fun e => (i + mpos l k, e.val) else none) w
 | [], c, k, w, i, hl, h => by
  have : c = [] := List.eq_nil_of_length_eq_zero (by simpa using hl)
  subst this; rfl
 | p :: r, [], k, w, i, hl, h => by simp at hl
 | p :: r, e :: c, k, w, i, hl, h => by
  obtain ⟨e0, g1, g2⟩ := h 0 (by simp)
  simp at g1 g2
  subst g1
  have hq := key2_eq hu hs hf h1 h2 a1 a2 o1 o2 n1 n2 k p.1 w
  simp only [Instr.findAsking, Sem.run_bind, g2, hq, Result.andThen_ok]
  by_cases ek : k = p.1
  ·simp [mpos, ek]
  ·simp only [ek, decide_false, Bool.false_eq_true, if_false]
   rw [asking2 r c k w (i + 1) (by simpa using hl) (fun j hj => h (j + 1) (Nat.succ_lt_succ hj))]
   simp only [mpos, if_neg ek, List.length_cons, Nat.add_lt_add_iff_right, List.getElem?_cons_succ]
   rw [show i + 1 + mpos r k = i + (mpos r k + 1) by omega]
omit hs in
theorem check2 (e : Bool) (n : Nat) (k : ByteArray × ByteArray) (w : World) : (Instr.checkKey e (n + 1 + 1) kt (kv2 k)).run P w = .ok () w := by
 have q1 : ∀ s w, (Instr.checkKey e (n + 1) f1.type (.string s)).run P w = .ok () w := fun s w => by
  rw [Instr.checkKey]; simp only [Sem.run_bind, run_underlying h1, Result.andThen_ok, Sem.run_pure]
 have q2 : ∀ s w, (Instr.checkKey e (n + 1) f2.type (.string s)).run P w = .ok () w := fun s w => by
  rw [Instr.checkKey]; simp only [Sem.run_bind, run_underlying h2, Result.andThen_ok, Sem.run_pure]
 have hu' := hu
 rw [hf] at hu'
 rw [Instr.checkKey]
 simp only [kv2, Sem.run_bind, run_underlying hu', Result.andThen_ok]
 simp [n1, n2, o1, o2, part, a1, a2, q1, q2]
theorem KeyOk.str2 : KeyOk P kt kv2 where
 check e k w := by
  rw [show (10000 : Nat) = 9998 + 1 + 1 from rfl]
  exact check2 hu hf h1 h2 a1 a2 o1 o2 n1 n2 e 9998 k w
 find l c k w hl h := by
  have hu' := hu
  rw [hf] at hu'
  cases c with
  | nil =>
   have : l = [] := List.eq_nil_of_length_eq_zero (by simpa using hl.symm)
   subst this
   simp [Instr.findKey, run_underlying hu', Instr.findNow, mpos]
  | cons e c =>
   have := asking2 hu hs hf h1 h2 a1 a2 o1 o2 n1 n2 l (e :: c) k w 0 hl h
   simp only [Nat.zero_add] at this
   simp only [Instr.findKey, Sem.run_bind, run_underlying hu', Result.andThen_ok, Instr.findNow, Instr.sameNow]
   exact this
 stay k w := by
  have : Instr.sameBits 10000 (kv2 k) (kv2 k) = true := by
   rw [show (10000 : Nat) = 9999 + 1 from rfl]
   simp [kv2, Instr.sameBits]
  simp [Instr.keyThatStays, this]
end
end Go.Proofs.YtaaokimiadfidaaGreatDoor
namespace Go.Proofs.YtaaokimiadfidaaGreatDoor
open Go.RowKit
set_option linter.unusedVariables false
set_option linter.unusedSimpArgs false
def errsF (xs : List Int) : Int := match xs.find? (fun x => decide (x ≠ 0)) with | some x => x | none => 0
theorem errsF_at {xs : List Int} {q : Nat} (hq : q < xs.length) (hn : ∀ j, j < q → xs.getD j 0 = 0) (h : xs.getD q 0 ≠ 0) : errsF xs = xs.getD q 0 := by
 induction xs generalizing q with
 | nil => simp at hq
 | cons x r ih =>
  cases q with
  | zero => simp at h; simp [errsF, h]
  | succ q =>
   have h0 := hn 0 (by omega)
   simp at h0
   have := ih (q := q) (by simpa using hq) (fun j hj => by simpa using hn (j + 1) (by omega)) (by simpa using h)
   simpa [errsF, h0] using this
theorem errsF_none {xs : List Int} (hn : ∀ j, j < xs.length → xs.getD j 0 = 0) : errsF xs = 0 := by
 induction xs with
 | nil => rfl
 | cons x r ih =>
  have h0 := hn 0 (by simp)
  simp at h0
  have := ih (fun j hj => by simpa using hn (j + 1) (by simpa using hj))
  simpa [errsF, h0] using this
theorem Le.lits {B : Bs} {s : St'} {t n : Nat} {xs : List Int} (hn : n = xs.length) (ht : look s.sl t = some (.im n 1 fun j => (intsL xs).getD j .any)) : Le B s ⟨(t, avInts xs) :: s.sl, s.hp, s.k⟩ := Le.recast ht fun w Z u h => Rep.ints hn h
end Go.Proofs.YtaaokimiadfidaaGreatDoor
namespace Go.Proofs.YtaaokimiadfidaaGreatDoor
open Go.RowKit
set_option linter.unusedVariables false
set_option linter.unusedSimpArgs false

structure LookS where
 board : ByteArray
 name : ByteArray
 at_ : Int
 verdict : Int
 bad : Bool
 machine : ByteArray
 nozzle : ByteArray
 reel : ByteArray
instance : Inhabited LookS := ⟨⟨ByteArray.empty, ByteArray.empty, 0, 0, false, ByteArray.empty, ByteArray.empty, ByteArray.empty⟩⟩
instance : Sxc LookS where
 k := 8
 pos := by decide
 cell m j := match j with
  | 0 => avS m.board
  | 1 => avS m.name
  | 2 => avI m.at_
  | 3 => avI m.verdict
  | 4 => avB m.bad
  | 5 => avS m.machine
  | 6 => avS m.nozzle
  | 7 => avS m.reel
  | _ => .any
abbrev avLk (x : LookS) : AV := .agg [avS x.board, avS x.name, avI x.at_, avI x.verdict, avB x.bad, avS x.machine, avS x.nozzle, avS x.reel]
structure SmLk (l : List LookS) : Prop where
 len : l.length ≤ 1000000
 board : ∀ i, (l.getD i default).board.size ≤ 1000000
 name : ∀ i, (l.getD i default).name.size ≤ 1000000
 machine : ∀ i, (l.getD i default).machine.size ≤ 1000000
 nozzle : ∀ i, (l.getD i default).nozzle.size ≤ 1000000
 reel : ∀ i, (l.getD i default).reel.size ≤ 1000000
def cmpI (a b : Int) : Int := if a < b then -1 else if b < a then 1 else 0
def cmpLk (a b : LookS) : Int := errsF [cmpI a.at_ b.at_, cmpB a.board b.board, cmpB a.name b.name]
def lkStrs (x : LookS) : List ByteArray := [x.board, x.name, x.machine, x.nozzle, x.reel]
def lookE (l : List LookS) (i : Nat) : Int :=
 if (lkStrs (l.getD i default)).all keyF = false then 5
 else if outR (l.getD i default).at_ 0 345686399999 = true then 1
 else if outR (l.getD i default).verdict 1 5 = true then 4
 else if (decide (0 < i) && decide (0 ≤ cmpLk (l.getD (i - 1) default) (l.getD i default))) = true then 7
 else 0
def sameT (o x : LookS) : Bool := sEq o.board x.board && sEq o.name x.name
def twE (l : List LookS) (i : Nat) : Int := if (l.take i).any (fun o => sameT o (l.getD i default)) = true then 6 else 0
def lookF (l : List LookS) : Int :=
 if 5000 < l.length then 2
 else if firstE (lookE l) l.length ≠ 0 then firstE (lookE l) l.length
 else firstE (twE l) l.length
section
variable {l : List LookS} {i : Nat}
theorem lookE_5 (h : (lkStrs (l.getD i default)).all keyF = false) : lookE l i = 5 := by rw [lookE, if_pos h]
theorem lookE_1 (h : (lkStrs (l.getD i default)).all keyF = true) (h1 : outR (l.getD i default).at_ 0 345686399999 = true) : lookE l i = 1 := by rw [lookE, if_neg (by rw [h]; simp), if_pos h1]
theorem lookE_4 (h : (lkStrs (l.getD i default)).all keyF = true) (h1 : outR (l.getD i default).at_ 0 345686399999 = false) (h2 : outR (l.getD i default).verdict 1 5 = true) : lookE l i = 4 := by rw [lookE, if_neg (by rw [h]; simp), if_neg (by rw [h1]; simp), if_pos h2]
theorem lookE_7 (h : (lkStrs (l.getD i default)).all keyF = true) (h1 : outR (l.getD i default).at_ 0 345686399999 = false) (h2 : outR (l.getD i default).verdict 1 5 = false) (hi : 0 < i) (h3 : 0 ≤ cmpLk (l.getD (i - 1) default) (l.getD i default)) : lookE l i = 7 := by
 rw [lookE, if_neg (by rw [h]; simp), if_neg (by rw [h1]; simp), if_neg (by rw [h2]; simp), if_pos (by rw [decide_eq_true hi, decide_eq_true h3]; rfl)]
theorem lookE_0 (h : (lkStrs (l.getD i default)).all keyF = true) (h1 : outR (l.getD i default).at_ 0 345686399999 = false) (h2 : outR (l.getD i default).verdict 1 5 = false) (h3 : i = 0 ∨ cmpLk (l.getD (i - 1) default) (l.getD i default) < 0) : lookE l i = 0 := by
 rw [lookE, if_neg (by rw [h]; simp), if_neg (by rw [h1]; simp), if_neg (by rw [h2]; simp), if_neg]
 rcases h3 with rfl | h3
 ·simp
 ·rw [decide_eq_false (show ¬ 0 ≤ cmpLk (l.getD (i - 1) default) (l.getD i default) by omega)]; simp
theorem lookF_2 (h : 5000 < l.length) : lookF l = 2 := by rw [lookF, if_pos h]
theorem lookF_at (h : l.length ≤ 5000) {q : Nat} (hq : q < l.length) (hn : ∀ j, j < q → lookE l j = 0) (he : lookE l q ≠ 0) : lookF l = lookE l q := by
 have := firstE_found hn he hq
 rw [lookF, if_neg (by omega), this, if_pos he]
theorem lookF_tw (h : l.length ≤ 5000) (h0 : ∀ j, j < l.length → lookE l j = 0) {q : Nat} (hq : q < l.length) (hn : ∀ j, j < q → twE l j = 0) (he : twE l q ≠ 0) : lookF l = twE l q := by
 have := firstE_found hn he hq
 rw [lookF, if_neg (by omega), firstE_none h0, if_neg (by simp), this]
theorem lookF_ok (h : l.length ≤ 5000) (h0 : ∀ j, j < l.length → lookE l j = 0) (hn : ∀ j, j < l.length → twE l j = 0) : lookF l = 0 := by
 rw [lookF, if_neg (by omega), firstE_none h0, if_neg (by simp), firstE_none hn]
end
def seenL (l : List LookS) : List ((ByteArray × ByteArray) × Bool) := l.map fun x => ((x.board, x.name), true)
theorem seenL_get (l : List LookS) (x : LookS) : mgetD (seenL l) (x.board, x.name) false = l.any fun o => sameT o x := by
 induction l with
 | nil => rfl
 | cons o l ih =>
  show mgetD (((o.board, o.name), true) :: seenL l) _ _ = _
  simp only [List.any_cons]
  rw [← ih]
  by_cases e : (x.board, x.name) = (o.board, o.name)
  ·have h1 : sameT o x = true := by
    have h2 := Prod.mk.inj e
    unfold sameT
    rw [h2.1, h2.2, sEq_eq.2 rfl, sEq_eq.2 rfl]; rfl
   rw [h1, mgetD, mget, if_pos e]; rfl
  ·have h1 : sameT o x = false := by
    cases hs : sameT o x with
    | false => rfl
    | true =>
     unfold sameT at hs
     rw [Bool.and_eq_true] at hs
     exact absurd (by rw [sEq_eq.1 hs.1, sEq_eq.1 hs.2]) e
   rw [h1, Bool.false_or, mgetD, mget, if_neg e]; rfl
theorem seenL_new {l : List LookS} {x : LookS} (h : l.any (fun o => sameT o x) = false) : mput (seenL l) (x.board, x.name) true = seenL (l ++ [x]) := by
 have hn : mpos (seenL l) (x.board, x.name) = (seenL l).length := by
  have hle := mpos_le (seenL l) (x.board, x.name)
  by_cases hlt : mpos (seenL l) (x.board, x.name) < (seenL l).length
  ·exfalso
   have hk := mpos_key (seenL l) (x.board, x.name) hlt
   have hl : mpos (seenL l) (x.board, x.name) < l.length := by simpa [seenL] using hlt
   rw [List.any_eq_false] at h
   have := h _ (List.getElem_mem hl)
   apply this
   simp only [seenL, List.getElem_map] at hk
   have h2 := Prod.mk.inj hk
   unfold sameT
   simp only [seenL] at h2 ⊢
   rw [h2.1, h2.2, sEq_eq.2 rfl, sEq_eq.2 rfl]; rfl
  ·omega
 rw [mput_new _ _ _ hn]
 simp [seenL]
def badN (l : List LookS) : Nat := (l.filter fun x => x.bad).length
theorem badN_le (l : List LookS) : badN l ≤ l.length := List.length_filter_le _ _
theorem badN_take {l : List LookS} {q : Nat} (h : q < l.length) : badN (l.take (q + 1)) = badN (l.take q) + if (l.getD q default).bad = true then 1 else 0 := by
 rw [List.take_add_one, List.getElem?_eq_getElem h]
 have : l.getD q default = l[q] := by rw [List.getD_eq_getElem?_getD, List.getElem?_eq_getElem h]; rfl
 rw [this]
 unfold badN
 rw [List.filter_append, List.length_append]
 cases hb : l[q].bad <;> simp [hb]
theorem twE_6 {l : List LookS} {i : Nat} (h : (l.take i).any (fun o => sameT o (l.getD i default)) = true) : twE l i = 6 := by rw [twE, if_pos h]
theorem twE_0 {l : List LookS} {i : Nat} (h : (l.take i).any (fun o => sameT o (l.getD i default)) = false) : twE l i = 0 := by rw [twE, if_neg (by rw [h]; simp)]
theorem lk_sz {l : List LookS} (h : SmLk l) (i q : Nat) : ((lkStrs (l.getD i default)).getD q ByteArray.empty).size ≤ 1000000 := by
 match q with
 | 0 => exact h.board i
 | 1 => exact h.name i
 | 2 => exact h.machine i
 | 3 => exact h.nozzle i
 | 4 => exact h.reel i
 | q + 5 => simp [lkStrs]
def millE (l : List LookS) : Int := if lookF l ≠ 0 then lookF l else if l.length = 0 then 8 else 0
def millN (l : List LookS) : Nat × Nat := if millE l = 0 then (badN l * 1000000 / Nat.gcd (badN l * 1000000) l.length, l.length / Nat.gcd (badN l * 1000000) l.length) else (0, 0)
theorem millE_1 {l : List LookS} (h : lookF l ≠ 0) : millE l = lookF l := by rw [millE, if_pos h]
theorem millE_8 {l : List LookS} (h : lookF l = 0) (h0 : l.length = 0) : millE l = 8 := by rw [millE, if_neg (by omega), if_pos h0]
theorem millE_0 {l : List LookS} (h : lookF l = 0) (h0 : l.length ≠ 0) : millE l = 0 := by rw [millE, if_neg (by omega), if_neg h0]
end Go.Proofs.YtaaokimiadfidaaGreatDoor
namespace Go.Proofs.YtaaokimiadfidaaGreatDoor
open Go.RowKit
set_option linter.unusedVariables false
set_option linter.unusedSimpArgs false

def AV.isV : AV → Bool
 | .v _ => true
 | _ => false
theorem flat_ofB {cs : List AV} (h : cs.all AV.isV = true) : FlatA cs := fun x hx => by
 have := List.all_eq_true.1 h x hx
 cases x <;> simp [AV.isV] at this
 exact ⟨_, rfl⟩
section
variable {P : Program} {s : St'}
theorem ResN.cellF {b t g j i k : Nat} {o' : Own'} {r : List AV} (hag : ∀ w, (isAgg t).run P w = .ok true w) (hsz : ∀ w, (sizeOf t).run P w = .ok k w) (hx : look s.sl b = some (.v (.pointer (some ⟨g, j, none⟩)))) (hi : s.hp[i]? = some (.box g o')) (hc : cutL o'.cs j k = some r) (hf : FlatA r) :
  ResN P s (.cell b t) (.agg r) := fun B a w hS hr => by
 obtain ⟨v, h1, h2⟩ := ResV.cellK hag hsz hx hi hc B a w hr
 refine ⟨v, h1, ?_⟩
 cases h2 with
 | agg cs us hl hr' => exact .agg _ _ hl fun j h => (hr' j h).flat (hf _ (List.getElem_mem h))
theorem ResN.rowT {α : Type} [Inhabited α] [Sxc α] {t i n : Nat} {u : Value} {xs : List α} {ty : TypeId} (h : look s.sl t = some (.v u)) (hi : s.hp[i]? = some (.row u n (Sxc.k α) (rowL xs) ty)) (hn : n = xs.length) (hf : FlatA (rowL xs)) : ResN P s (.tmp t) (avL xs) :=
 ResN.row h hi hf fun w Z u h => Rep.rowL hn h
theorem ResN.nilE {t sz : Nat} {F : Nat → AV} (h : look s.sl t = some (.v (.slice none 0 0))) : ResN P s (.tmp t) (.im 0 sz F) := fun B a w hS hr => ⟨_, rfl, by
 show Rep w (NewZ B w) _ (a.tmps.getD t undef)
 rw [(hr.slots t _ h).eq_v]; exact .nil _ _⟩
theorem flat_rowL {α : Type} [Inhabited α] [Sxc α] (h : ∀ (x : α) j, j < Sxc.k α → ∃ v, Sxc.cell x j = .v v) (xs : List α) : FlatA (rowL xs) := fun y hy => by
 simp only [rowL, List.mem_flatMap] at hy
 obtain ⟨x, _, hy⟩ := hy
 obtain ⟨j, hj, rfl⟩ := List.getElem_of_mem hy
 rw [tab_len] at hj
 obtain ⟨v, hv⟩ := h x j hj
 refine ⟨v, ?_⟩
 rw [← hv]
 have := tab_get (Sxc.k α) (Sxc.cell x) j
 have h2 : (tab (Sxc.k α) (Sxc.cell x))[j]? = some (Sxc.cell x j) := by rw [List.getElem?_eq_getElem (by rw [tab_len]; exact hj), tab_get]
 have h3 : j < (tab (Sxc.k α) (Sxc.cell x)).length := by rw [tab_len]; exact hj
 rw [List.getElem?_eq_getElem h3] at h2
 exact Option.some.inj h2
end
section
variable {P : Program} {B : Bs} {W : Nat → Prop} {s : St'} {o : Oper} {K : St' → Prop} {a : Act} {w : World}
theorem Le.freezeAt {t i m g : Nat} {o' : Own'} {f : Nat → AV} (ht : look s.sl t = some (.v (.pointer (some ⟨g, 0, none⟩)))) (hi : s.hp[i]? = some (.box g o')) (hl : 0 + m ≤ o'.cs.length) (hf : ∀ w Z u, Rep w Z (.at_ m fun j => o'.cs.getD (0 + j) .any) u → Rep w Z (.at_ m f) u) (hnew : True) (hB : B.Ok) :
  Le B s ⟨(t, .at_ m f) :: s.sl, s.hp.eraseIdx i, s.k⟩ := fun a w hr => by
 have hr' := hr.erase i
 refine hr'.over t ?_
 have hu : a.tmps.getD t undef = _ := (hr.slots t _ ht).eq_v
 rw [hu]
 refine hf _ _ _ (hr.repPtr hi hl (fun b hb => ⟨hb.1, fun p hp => hb.2.1 p ((List.eraseIdx_sublist s.hp i).subset hp), hb.2.2⟩) fun hl => ?_)
 exact hr.erased hB hi rfl
theorem apart_ne {hp : List Ent} (h : Apart hp) {i j g g' : Nat} (hi : (hp[i]?).bind Ent.blk = some g) (hj : (hp[j]?).bind Ent.blk = some g') (hij : i ≠ j) : g ≠ g' := fun e => by
 obtain ⟨p, hp1, hp2⟩ := Option.bind_eq_some_iff.1 hi
 obtain ⟨q, hq1, hq2⟩ := Option.bind_eq_some_iff.1 hj
 exact h.get hp1 hq1 hij hp2 (by rw [hq2, e])
theorem OpE.hap (h : Apart s.hp → OpE P B W s o K) : OpE P B W s o K := fun a w hr => h hr.nodup a w hr
theorem VC.hap {c : Code} {Q : Exit → St' → Prop} (h : Apart s.hp → VC P B c Q s) : VC P B c Q s := fun a w hr => h hr.nodup a w hr
theorem Wi.notD {ops : Array Oper} {i g : Nat} {js : List Nat} {X : Nat → Prop} (h : (js.all fun j => depB ops j i) = true) : ¬ Wi (fun j b => j ∈ js ∧ X b) ops i g := fun ⟨j, h1, h2, _⟩ => by
 rw [List.all_eq_true.1 h j h2] at h1; cases h1
theorem Wi.notN {ops : Array Oper} {i m m2 g : Nat} {X : Nat → Prop} (h : depB ops m i = true) : ¬ Wi (fun j b => (j = m ∧ X b) ∨ (j = m2 ∧ b ≠ g)) ops i g := fun ⟨j, h1, h2⟩ => by
 rcases h2 with ⟨h2, _⟩ | ⟨_, h2⟩
 ·subst h2; rw [h] at h1; cases h1
 ·exact h2 rfl
def lstB (n : Nat) (l : List Nat) : Array Bool := l.foldl (fun a i => a.setIfInBounds i true) (Array.replicate n false)
theorem VA.bind {V : Nat → Nat → Prop} {ops : Array Oper} {Q : Exit → St' → Prop} {n : Nat} {L : Array Bool} (h : ∀ F : Nat → Array Bool → St' → Prop, F = (fun n L s => VA P B V ops Q n L s) → F n L s) : VA P B V ops Q n L s := h _ rfl
theorem VA.to {V : Nat → Nat → Prop} {ops : Array Oper} {Q : Exit → St' → Prop} {n : Nat} {L L' : Array Bool} {s' : St'} (h : VA P B V ops Q n L' s') (hL : L = L') (hle : Le B s s') : VA P B V ops Q n L s := by
 subst hL
 exact VA.le _ hle h
theorem Le.aggRow {t i j n sz : Nat} {u : Value} {cs csA : List AV} {ty : TypeId} {y : AV} (hB : B.Ok) (hnew : True) (ht : look s.sl t = some (.agg csA)) (hj : csA[j]? = some (.v u)) (hi : s.hp[i]? = some (.row u n sz cs ty)) (hy : ∀ w Z u, Rep w Z (.im n sz fun j => cs.getD j .any) u → Rep w Z y u) :
  Le B s ⟨(t, .agg (csA.set j y)) :: s.sl, s.hp.eraseIdx i, s.k⟩ := fun a w hr => by
 have hm := List.mem_of_getElem? hi
 have hr' := hr.erase i
 refine hr'.over t ?_
 have hz : ∀ b, Zn B s.hp w b → Zn B (s.hp.eraseIdx i) w b := fun b hb => ⟨hb.1, fun p hp => hb.2.1 p ((List.eraseIdx_sublist s.hp i).subset hp), hb.2.2⟩
 have h0 := hr.slots t _ ht
 generalize a.tmps.getD t undef = v at h0
 cases h0 with
 | agg cs' us hl hrr =>
  refine .agg _ us (by simpa using hl) fun q hq => ?_
  have hq' : q < csA.length := by simpa using hq
  obtain ⟨hjl, hje⟩ := List.getElem?_eq_some_iff.1 hj
  rw [List.getElem_set]
  split
  ·rename_i e
   subst e
   have h1 := hrr j hjl
   rw [hje] at h1
   rw [h1.eq_v]
   exact hy _ _ _ (hr.repRow hi hz fun g hg hl => hr.erased hB hi hg)
  ·exact (hrr q hq').keep fun b hb _ => ⟨rfl, hz b hb⟩
end
end Go.Proofs.YtaaokimiadfidaaGreatDoor
namespace Go.Proofs.YtaaokimiadfidaaGreatDoor
open Go.RowKit
set_option linter.unusedVariables false
set_option linter.unusedSimpArgs false

def below (x n : Int) : Int := if n < 1 then 0 else x % n
theorem below_lo (x n : Int) : 0 ≤ below x n := by unfold below; split; omega; exact Int.emod_nonneg _ (by omega)
theorem below_lt (x n : Int) (h : 1 ≤ n) : below x n < n := by unfold below; rw [if_neg (by omega)]; exact Int.emod_lt_of_pos _ (by omega)
theorem tmod_facts (x n : Int) (h : 1 ≤ n) : x.tmod n < n ∧ -n < x.tmod n ∧ (x.tmod n < 0 → x.tmod n + n = x % n) ∧ (0 ≤ x.tmod n → x.tmod n = x % n) := by
 have hn := Int.emod_nonneg x (show n ≠ 0 by omega)
 have hl := Int.emod_lt_of_pos x (show 0 < n by omega)
 by_cases h0 : 0 ≤ x
 ·rw [Int.tmod_eq_emod_of_nonneg h0]
  exact ⟨hl, by omega, fun _ => by omega, fun _ => rfl⟩
 ·have e : x.tmod n = -((-x) % n) := by
   rw [← Int.tmod_eq_emod_of_nonneg (by omega : 0 ≤ -x), Int.neg_tmod, Int.neg_neg]
  have hn' := Int.emod_nonneg (-x) (show n ≠ 0 by omega)
  have hl' := Int.emod_lt_of_pos (-x) (show 0 < n by omega)
  have e2 := Int.neg_emod (a := x) (b := n)
  rw [e]
  split at e2
  ·have : x % n = 0 := Int.emod_eq_zero_of_dvd ‹_›
   exact ⟨by omega, by omega, fun _ => by omega, fun _ => by omega⟩
  ·have e3 : (n.natAbs : Int) = n := by omega
   rw [e3] at e2
   exact ⟨by omega, by omega, fun _ => by omega, fun _ => by omega⟩

set_option maxHeartbeats 400000 in
theorem below_any (x n : Int) (w : World) (hn : n ≤ 9223372036854775807) :
  Calls Tryz.prog 229 #[.int .i64 x, .int .i64 n] w fun e w' => e = .returned (.int .i64 (below x n)) ∧ w = w' := by
 by_cases h1 : n < 1
 ·go_enter Tryz.func229, Tryz.ntmps229
  go_wp2
  go_ret
  exact ⟨by simp [below, h1], rfl⟩
 ·obtain ⟨b1, b2, b3, b4⟩ := tmod_facts x n (by omega)
  have B3 := hid b3; clear b3
  have B4 := hid b4; clear b4
  go_enter Tryz.func229, Tryz.ntmps229
  go_wp2
  ·go_ret
   exact ⟨ret_int (by rw [below, if_neg (by omega)]; exact B3.out (by omega)), rfl⟩
  ·go_ret
   exact ⟨ret_int (by rw [below, if_neg (by omega)]; exact B4.out (by omega)), rfl⟩

def nxt (L : List Int) (k : Nat) (n : Int) : Int :=
 if L.length = 0 then below (((k : Int) + 1) * 7919) n
 else below (below (L.getD (k % L.length) 0) 1073741824 + ((k / L.length : Nat) : Int) * (7919 + ((k % L.length : Nat) : Int))) n
theorem nxt_lo (L : List Int) (k : Nat) (n : Int) : 0 ≤ nxt L k n := by unfold nxt; split <;> exact below_lo _ _
theorem nxt_lt (L : List Int) (k : Nat) (n : Int) (h : 1 ≤ n) : nxt L k n < n := by unfold nxt; split <;> exact below_lt _ _ h

def Strm (w : World) (p : Nat) (L : List Int) (k : Nat) : Prop :=
 ∃ a cap, w.heap[p]? = some (.cells #[.slice a L.length cap, .int .i64 k] 25 (0, 0)) ∧ L.length ≤ 9223372036854775807 ∧
  ∀ i, i < L.length → ∃ b o, a = some ⟨b, o, none⟩ ∧ b < p ∧ w.cell? ⟨b, o + i, none⟩ = some (.int .i64 (L.getD i 0))

theorem Strm.keep {S : Nat → Prop} {w w' : World} {p : Nat} {L : List Int} {k : Nat} (h : Strm w p L k) (c : Chg S w w') (hs : ∀ j, j ≤ p → ¬ S j) : Strm w' p L k := by
 obtain ⟨a, cap, hp, hl, hc⟩ := h
 have hlt := (Array.getElem?_eq_some_iff.1 hp).1
 refine ⟨a, cap, (c.block p hlt (hs p (Nat.le_refl _))).trans hp, hl, fun i hi => ?_⟩
 obtain ⟨b, o, ha, hb, hcell⟩ := hc i hi
 exact ⟨b, o, ha, hb, c.cell hcell (hs _ (Nat.le_of_lt hb))⟩
theorem Strm.lt {w : World} {p : Nat} {L : List Int} {k : Nat} (h : Strm w p L k) : p < w.heap.size := by
 obtain ⟨a, cap, hp, hl, hc⟩ := h
 exact (Array.getElem?_eq_some_iff.1 hp).1

theorem Strm.step {w : World} {p : Nat} {L : List Int} {k : Nat} {a : Option Addr} {cap : Nat}
  (hp : w.heap[p]? = some (.cells #[.slice a L.length cap, .int .i64 k] 25 (0, 0))) (hl : L.length ≤ 9223372036854775807)
  (hc : ∀ i, i < L.length → ∃ b o, a = some ⟨b, o, none⟩ ∧ b < p ∧ w.cell? ⟨b, o + i, none⟩ = some (.int .i64 (L.getD i 0))) :
  Strm (w.setCell ⟨p, 1, none⟩ (.int .i64 ((k : Int) + 1))) p L (k + 1) := by
 refine ⟨a, cap, ?_, hl, fun i hi => ?_⟩
 ·simp [World.setCell, Array.getElem?_modify, hp]
 ·obtain ⟨b, o, ha, hb, hcell⟩ := hc i hi
  refine ⟨b, o, ha, hb, ?_⟩
  rw [← hcell]
  exact World.cell?_of_block (Below.heap_setCell _ _ _ _ (Nat.ne_of_lt hb))

set_option maxHeartbeats 400000 in
theorem next_any (p : Nat) (L : List Int) (k : Nat) (n : Int) (w : World) (h : Strm w p L k) (hk : k ≤ 1000000) (hn : n ≤ 1000000000) :
  Calls Tryz.prog 103 #[.pointer (some ⟨p, 0, none⟩), .int .i64 n] w fun e w' => e = .returned (.int .i64 (nxt L k n)) ∧ Strm w' p L (k + 1) ∧ Chg (AtB p) w w' := by
 obtain ⟨a, cap, hp, hl, hc⟩ := h
 have c0 : w.cell? ⟨p, 0, none⟩ = some (.slice a L.length cap) := by simp [World.cell?, hp]
 have c1 : w.cell? ⟨p, 1, none⟩ = some (.int .i64 k) := by simp [World.cell?, hp]
 have f1 : w.frozen? ⟨p, 1, none⟩ = false := by simp [World.frozen?, hp]
 have HP := hid hp; clear hp
 by_cases h0 : L.length = 0
 ·have h0' : ((L.length : Int) == 0) = true := by simp [h0]
  have H0 := hid h0; clear h0
  go_enter Tryz.func103, Tryz.ntmps103
  go_wp2_with (go_at_call 229; refine (below_any _ _ _ (by omega)).mono ?_; rintro e w' ⟨rfl, rfl⟩)
  go_ret
  exact ⟨ret_int (by rw [nxt, if_pos H0.out]), Strm.step HP.out hl hc, (Chg.refl (AtB p) w).setCell (a := ⟨p, 1, none⟩) (fun _ => rfl) _⟩
 ·have h0' : ((L.length : Int) == 0) = false := beq_eq_false_iff_ne.2 (by omega)
  obtain ⟨b, o, rfl, hbp', _⟩ := hc 0 (by omega)
  have hbp : b ≠ p := by omega
  have hci := (hc (k % L.length) (Nat.mod_lt _ (by omega)))
  obtain ⟨_, _, he, _, hci⟩ := hci
  cases he
  have HC := hid hc; clear hc
  have hm := Nat.mod_lt k (show 0 < L.length by omega)
  have hmk := Nat.mod_le k L.length
  have hdk := Nat.div_le_self k L.length
  have hb := below_lo (L[k % L.length]) 1073741824
  have hb2 := below_lt (L[k % L.length]) 1073741824 (by omega)
  have em : (k : Int) % (L.length : Int) = ((k % L.length : Nat) : Int) := by simp
  have ed : (k : Int) / (L.length : Int) = ((k / L.length : Nat) : Int) := by simp
  have m1 : 0 ≤ (k : Int) % (L.length : Int) := by rw [em]; omega
  have m2 : (k : Int) % (L.length : Int) < (L.length : Int) := by rw [em]; omega
  have m3 : (k : Int) % (L.length : Int) ≤ 1000000 := by rw [em]; omega
  have d1 : 0 ≤ (k : Int) / (L.length : Int) := Int.ediv_nonneg (by omega) (by omega)
  have d2 : (k : Int) / (L.length : Int) ≤ 1000000 := by rw [ed]; omega
  clear em ed
  have q1 : 0 ≤ (k : Int) / (L.length : Int) * (7919 + (k : Int) % (L.length : Int)) := Int.mul_nonneg d1 (by omega)
  have q2 : (k : Int) / (L.length : Int) * (7919 + (k : Int) % (L.length : Int)) ≤ 1000000 * 1007919 := Int.mul_le_mul d2 (by omega) (by omega) (by omega)
  go_enter Tryz.func103, Tryz.ntmps103
  go_wp2_with fail
  go_quiet (fail)
  go_wp2_with fail
  go_quiet (fail)
  go_wp2_with (go_at_call 229; refine (below_any _ _ _ (by omega)).mono ?_; rintro e w' ⟨rfl, rfl⟩)
  go_ret
  refine ⟨ret_int ?_, (Strm.step HP.out hl HC.out).keep ((Chg.refl NoB _).drewN _) (fun _ _ x => x), ((Chg.refl (AtB p) w).setCell (a := ⟨p, 1, none⟩) (fun _ => rfl) _).drewN _⟩
  rw [nxt, if_neg h0]
  simp [hm]

def rng (L : List Int) (k : Nat) (lo hi : Int) : Int := lo + nxt L k (hi - lo + 1)
theorem rng_lo (L : List Int) (k : Nat) (lo hi : Int) : lo ≤ rng L k lo hi := by unfold rng; have := nxt_lo L k (hi - lo + 1); omega
theorem rng_hi (L : List Int) (k : Nat) (lo hi : Int) (h : lo ≤ hi) : rng L k lo hi ≤ hi := by unfold rng; have := nxt_lt L k (hi - lo + 1) (by omega); omega

set_option maxHeartbeats 400000 in
theorem range_any (p : Nat) (L : List Int) (k : Nat) (lo hi : Int) (w : World) (h : Strm w p L k) (hk : k ≤ 1000000) (h0 : 0 ≤ lo) (hl : lo ≤ hi) (hn : hi ≤ 999999999) :
  Calls Tryz.prog 14 #[.pointer (some ⟨p, 0, none⟩), .int .i64 lo, .int .i64 hi] w fun e w' => e = .returned (.int .i64 (rng L k lo hi)) ∧ Strm w' p L (k + 1) ∧ Chg (AtB p) w w' := by
 have b1 := nxt_lo L k (hi - lo + 1)
 have b2 := nxt_lt L k (hi - lo + 1) (by omega)
 have hlt := h.lt
 go_enter Tryz.func14, Tryz.ntmps14
 go_wp2_with (go_at_call 103; refine (next_any _ _ _ _ _ h (by omega) (by omega)).mono ?_; rintro e w' ⟨rfl, hs, hc⟩)
 go_ret
 exact ⟨rfl, hs, hc⟩

set_option maxHeartbeats 400000 in
theorem flip_any (p : Nat) (L : List Int) (k : Nat) (n : Int) (w : World) (h : Strm w p L k) (hk : k ≤ 1000000) (hn : n ≤ 1000000000) :
  Calls Tryz.prog 17 #[.pointer (some ⟨p, 0, none⟩), .int .i64 n] w fun e w' => e = .returned (.bool (nxt L k n == 0)) ∧ Strm w' p L (k + 1) ∧ Chg (AtB p) w w' := by
 go_enter Tryz.func17, Tryz.ntmps17
 go_wp2_with (go_at_call 103; refine (next_any _ _ _ _ _ h (by omega) (by omega)).mono ?_; rintro e w' ⟨rfl, hs, hc⟩)
 go_ret
 exact ⟨rfl, hs, hc⟩

def pick (L : List Int) (k : Nat) (xs : List Int) : Int := xs.getD (nxt L k xs.length).toNat 0

end Go.Proofs.YtaaokimiadfidaaGreatDoor
namespace Go.Proofs.YtaaokimiadfidaaGreatDoor
open Go.RowKit
set_option linter.unusedVariables false
set_option linter.unusedSimpArgs false

def TT (p : Nat) (L : List Int) (w : World) (k : Nat) : Prop := ∃ k', k' ≤ k ∧ Strm w p L k'
abbrev sp (p : Nat) : AV := .v (.pointer (some ⟨p, 0, none⟩))
theorem TT.ok {p : Nat} {L : List Int} {w : World} {A : Nat → Prop} {nt k : Nat} (h : TT p L w k) : (B1 w A nt (fun b => b = p) (fun b => b ≤ p) (TT p L)).Ok := by
 obtain ⟨k', hk, hs⟩ := h
 exact {
  keep := fun {S w w' k} ⟨k', hk, hs⟩ hc hS => ⟨k', hk, hs.keep hc hS⟩
  low := fun j hj => Nat.lt_of_le_of_lt hj hs.lt
  str := fun j hj => by cases hj; exact ⟨Nat.le_refl _, rfl⟩
  up := fun {w k k2} ⟨k', h1, h2⟩ h3 => ⟨k', Nat.le_trans h1 h3, h2⟩ }
theorem chgIs {p : Nat} {w w' : World} (h : Chg (AtB p) w w') : Chg (fun b => b = p) w w' := by
 have : (fun b => b = p) = AtB p := rfl
 rw [this]; exact h

theorem SpecT.of_Calls {P : Program} {F : FuncId} {xs : List AV} {us0 : Array Value} {p : Nat} {L : List Int} {G : AV → Prop}
  (hus : ∀ w A us, Args w A xs us → us = us0)
  (h : ∀ w k, k ≤ 1000000 → Strm w p L k → Calls P F us0 w fun e w' => ∃ v, e = .returned v ∧ G (.v v) ∧ Strm w' p L (k + 1) ∧ Chg (AtB p) w w') :
  SpecT P (TT p L) (fun b => b = p) F xs 1 G := by
 intro w A us k hA ⟨k', hk', hs⟩ hstr hk
 have hu := hus w A us hA
 subst hu
 refine (h w k' (by omega) hs).mono ?_
 rintro e w' ⟨v, rfl, hG, hs', hc⟩
 exact ⟨.v v, v, hG, rfl, .v v, chgIs hc, ⟨k' + 1, by omega, hs'⟩⟩
theorem args2 {p : Nat} {u : Value} {w : World} {A : Nat → Prop} {us : Array Value} (h : Args w A [sp p, .v u] us) : us = #[.pointer (some ⟨p, 0, none⟩), u] := by
 obtain ⟨h1, h2⟩ := h
 have e0 := (h2 0 (by simp)).eq_v
 have e1 := (h2 1 (by simp)).eq_v
 apply Array.ext (by simpa using h1)
 intro i hi hi'
 simp at hi'
 rw [h1] at hi
 match i, hi' with
 | 0, _ => simpa [Array.getD_eq_getD_getElem?, h1] using e0
 | 1, _ => simpa [Array.getD_eq_getD_getElem?, h1] using e1
theorem args3 {p : Nat} {u v : Value} {w : World} {A : Nat → Prop} {us : Array Value} (h : Args w A [sp p, .v u, .v v] us) : us = #[.pointer (some ⟨p, 0, none⟩), u, v] := by
 obtain ⟨h1, h2⟩ := h
 have e0 := (h2 0 (by simp)).eq_v
 have e1 := (h2 1 (by simp)).eq_v
 have e2 := (h2 2 (by simp)).eq_v
 apply Array.ext (by simpa using h1)
 intro i hi hi'
 simp at hi'
 rw [h1] at hi
 match i, hi' with
 | 0, _ => simpa [Array.getD_eq_getD_getElem?, h1] using e0
 | 1, _ => simpa [Array.getD_eq_getD_getElem?, h1] using e1
 | 2, _ => simpa [Array.getD_eq_getD_getElem?, h1] using e2

section
variable {p : Nat} {L : List Int}
theorem next_T {n : Int} (hn : n ≤ 1000000000) : SpecT Tryz.prog (TT p L) (fun b => b = p) 103 [sp p, avI n] 1 (fun y => ∃ r : Int, (0 ≤ r ∧ (1 ≤ n → r < n)) ∧ y = avI r) :=
 SpecT.of_Calls (fun w A us h => args2 h) fun w k hk hs => (next_any p L k n w hs hk hn).mono fun e w' ⟨h1, h2, h3⟩ => ⟨_, h1, ⟨_, ⟨nxt_lo L k n, nxt_lt L k n⟩, rfl⟩, h2, h3⟩
theorem range_T {lo hi : Int} (h0 : 0 ≤ lo) (hl : lo ≤ hi) (hn : hi ≤ 999999999) : SpecT Tryz.prog (TT p L) (fun b => b = p) 14 [sp p, avI lo, avI hi] 1 (fun y => ∃ r : Int, (lo ≤ r ∧ r ≤ hi) ∧ y = avI r) :=
 SpecT.of_Calls (fun w A us h => args3 h) fun w k hk hs => (range_any p L k lo hi w hs hk h0 hl hn).mono fun e w' ⟨h1, h2, h3⟩ => ⟨_, h1, ⟨_, ⟨rng_lo L k lo hi, rng_hi L k lo hi hl⟩, rfl⟩, h2, h3⟩
theorem flip_T {n : Int} (hn : n ≤ 1000000000) : SpecT Tryz.prog (TT p L) (fun b => b = p) 17 [sp p, avI n] 1 (fun y => ∃ r : Bool, y = avB r) :=
 SpecT.of_Calls (fun w A us h => args2 h) fun w k hk hs => (flip_any p L k n w hs hk hn).mono fun e w' ⟨h1, h2, h3⟩ => ⟨_, h1, ⟨_, rfl⟩, h2, h3⟩
end

def AllI (lo hi : Int) : List AV → Prop
 | [] => True
 | x :: r => (∃ i : Int, (lo ≤ i ∧ i ≤ hi) ∧ x = avI i) ∧ AllI lo hi r
theorem AllI.nil {lo hi : Int} : AllI lo hi [] := trivial
theorem AllI.cons {lo hi i : Int} {r : List AV} (h : lo ≤ i ∧ i ≤ hi) (hr : AllI lo hi r) : AllI lo hi (avI i :: r) := ⟨⟨i, h, rfl⟩, hr⟩
theorem AllI.get {lo hi : Int} : ∀ {l : List AV} {q : Nat}, AllI lo hi l → q < l.length → ∃ i : Int, (lo ≤ i ∧ i ≤ hi) ∧ l.getD q .any = avI i
 | [], q, _, h => by simp at h
 | x :: r, 0, h, _ => by simpa using h.1
 | x :: r, q + 1, h, hq => by simpa using AllI.get h.2 (by simpa using hq)
def AllX : List AV → Prop
 | [] => True
 | x :: r => (∃ i : Int, x = avI i) ∧ AllX r
theorem AllX.nil : AllX [] := trivial
theorem AllX.cons {i : Int} {r : List AV} (hr : AllX r) : AllX (avI i :: r) := ⟨⟨i, rfl⟩, hr⟩
theorem AllX.get : ∀ {l : List AV} {q : Nat}, AllX l → q < l.length → ∃ i : Int, l.getD q .any = avI i
 | [], q, _, h => by simp at h
 | x :: r, 0, h, _ => by simpa using h.1
 | x :: r, q + 1, h, hq => by simpa using AllX.get h.2 (by simpa using hq)
def AllS (m : Nat) : List AV → Prop
 | [] => True
 | x :: r => (∃ i : ByteArray, i.size ≤ m ∧ x = avS i) ∧ AllS m r
theorem AllS.nil {m : Nat} : AllS m [] := trivial
theorem AllS.cons {m : Nat} {i : ByteArray} {r : List AV} (h : i.size ≤ m) (hr : AllS m r) : AllS m (avS i :: r) := ⟨⟨i, h, rfl⟩, hr⟩
theorem AllS.get {m : Nat} : ∀ {l : List AV} {q : Nat}, AllS m l → q < l.length → ∃ i : ByteArray, i.size ≤ m ∧ l.getD q .any = avS i
 | [], q, _, h => by simp at h
 | x :: r, 0, h, _ => by simpa using h.1
 | x :: r, q + 1, h, hq => by simpa using AllS.get h.2 (by simpa using hq)



set_option maxRecDepth 100000 in
theorem pick_T {p : Nat} {L : List Int} {n : Nat} {l : List AV} (lo hi : Int) (hn : l.length = n) (h0 : 0 < n) (h1 : n ≤ 1000) (hall : AllI lo hi l) :
  SpecT Tryz.prog (TT p L) (fun b => b = p) 15 [sp p, .im n 1 fun j => l.getD j .any] 1 (fun y => ∃ r : Int, (lo ≤ r ∧ r ≤ hi) ∧ y = avI r) := by
 refine SpecT.of_VC Tryz.func15 rfl Tryz.ntmps15 (Nle rfl) (low := (fun b => b ≤ p)) (fun w A k h => h.ok) fun w A k hk hB => ?_
 have hnew : True := trivial
 refine VC.sr ?_
 refine VO.ma rfl rfl rfl rfl ?_
 refine VO.nil ?_
 refine VC.sr ?_
 refine VO.mv rfl rfl rfl rfl ?_
 refine VO.mv rfl rfl rfl rfl ?_
 refine VO.mv rfl rfl rfl rfl ?_
 refine VO.val rfl rfl (OpV.len_im rfl Tryz.underlying22 rfl) ?_
 refine VO.op rfl (OpE.callT' (k) rfl rfl hB rfl Tryz.call103 rfl ((next_T (by omega))) (by omega) ?_)
 rintro _ ⟨r9, hr9, rfl⟩
 refine VO.val rfl rfl (OpV.indexAddr_1 rfl Tryz.underlying22 Tryz.sizeOf3 rfl rfl (Int.toNat_of_nonneg (by omega)).symm (by omega)) ?_
 refine VO.val rfl rfl (OpV.load_at rfl hB OutW.no Tryz.isAgg3 rfl rfl) ?_
 refine VO.ma rfl rfl rfl rfl ?_
 refine VO.nil ?_
 refine VC.ret ?_
 exact Exists.intro _ (And.intro (RetV.one Tryz.results15 (ResV.tmp rfl)) (And.intro (hall.get (by omega)) ((show k + 1 ≤ k + 1 by omega))))
set_option maxRecDepth 100000 in
theorem pick_X {p : Nat} {L : List Int} {n : Nat} {l : List AV} (hn : l.length = n) (h0 : 0 < n) (h1 : n ≤ 1000) (hall : AllX l) :
  SpecT Tryz.prog (TT p L) (fun b => b = p) 15 [sp p, .im n 1 fun j => l.getD j .any] 1 (fun y => ∃ r : Int, y = avI r) := by
 refine SpecT.of_VC Tryz.func15 rfl Tryz.ntmps15 (Nle rfl) (low := (fun b => b ≤ p)) (fun w A k h => h.ok) fun w A k hk hB => ?_
 have hnew : True := trivial
 refine VC.sr ?_
 refine VO.ma rfl rfl rfl rfl ?_
 refine VO.nil ?_
 refine VC.sr ?_
 refine VO.mv rfl rfl rfl rfl ?_
 refine VO.mv rfl rfl rfl rfl ?_
 refine VO.mv rfl rfl rfl rfl ?_
 refine VO.val rfl rfl (OpV.len_im rfl Tryz.underlying22 rfl) ?_
 refine VO.op rfl (OpE.callT' (k) rfl rfl hB rfl Tryz.call103 rfl ((next_T (by omega))) (by omega) ?_)
 rintro _ ⟨r9, hr9, rfl⟩
 refine VO.val rfl rfl (OpV.indexAddr_1 rfl Tryz.underlying22 Tryz.sizeOf3 rfl rfl (Int.toNat_of_nonneg (by omega)).symm (by omega)) ?_
 refine VO.val rfl rfl (OpV.load_at rfl hB OutW.no Tryz.isAgg3 rfl rfl) ?_
 refine VO.ma rfl rfl rfl rfl ?_
 refine VO.nil ?_
 refine VC.ret ?_
 exact Exists.intro _ (And.intro (RetV.one Tryz.results15 (ResV.tmp rfl)) (And.intro (hall.get (by omega)) ((show k + 1 ≤ k + 1 by omega))))
set_option maxRecDepth 100000 in
theorem some_T {p : Nat} {L : List Int} {n : Nat} {l : List AV} (m : Nat) (hn : l.length = n) (h0 : 0 < n) (h1 : n ≤ 1000) (hall : AllS m l) :
  SpecT Tryz.prog (TT p L) (fun b => b = p) 16 [sp p, .im n 1 fun j => l.getD j .any] 1 (fun y => ∃ r : ByteArray, r.size ≤ m ∧ y = avS r) := by
 refine SpecT.of_VC Tryz.func16 rfl Tryz.ntmps16 (Nle rfl) (low := (fun b => b ≤ p)) (fun w A k h => h.ok) fun w A k hk hB => ?_
 have hnew : True := trivial
 refine VC.sr ?_
 refine VO.ma rfl rfl rfl rfl ?_
 refine VO.nil ?_
 refine VC.sr ?_
 refine VO.mv rfl rfl rfl rfl ?_
 refine VO.mv rfl rfl rfl rfl ?_
 refine VO.mv rfl rfl rfl rfl ?_
 refine VO.val rfl rfl (OpV.len_im rfl Tryz.underlying67 rfl) ?_
 refine VO.op rfl (OpE.callT' (k) rfl rfl hB rfl Tryz.call103 rfl ((next_T (by omega))) (by omega) ?_)
 rintro _ ⟨r9, hr9, rfl⟩
 refine VO.val rfl rfl (OpV.indexAddr_1 rfl Tryz.underlying67 Tryz.sizeOf9 rfl rfl (Int.toNat_of_nonneg (by omega)).symm (by omega)) ?_
 refine VO.val rfl rfl (OpV.load_at rfl hB OutW.no Tryz.isAgg9 rfl rfl) ?_
 refine VO.ma rfl rfl rfl rfl ?_
 refine VO.nil ?_
 refine VC.ret ?_
 exact Exists.intro _ (And.intro (RetV.one Tryz.results16 (ResV.tmp rfl)) (And.intro (hall.get (by omega)) ((show k + 1 ≤ k + 1 by omega))))


end Go.Proofs.YtaaokimiadfidaaGreatDoor
namespace Go.Proofs.YtaaokimiadfidaaGreatDoor
open Go.RowKit
set_option linter.unusedVariables false
set_option linter.unusedSimpArgs false
theorem tdiv_bd {a b M : Int} (ha : -M ≤ a ∧ a ≤ M) : -M ≤ a.tdiv b ∧ a.tdiv b ≤ M := by
 have h := Int.natAbs_tdiv_le_natAbs a b
 omega
theorem tmod_bd {a b M : Int} (ha : -M ≤ a ∧ a ≤ M) : -M ≤ a.tmod b ∧ a.tmod b ≤ M := by
 have h : (a.tmod b).natAbs ≤ a.natAbs := by rw [Int.natAbs_tmod]; exact Nat.mod_le _ _
 omega


set_option maxRecDepth 100000 in
theorem kit_Lowest {a b : Nat} (ha : a ≤ 4000000000000000000) (hb : b ≤ 4000000000000000000) (h0 : 0 < b) :
  SpecN Tryz.prog 115 [avI (a : Int), avI (b : Int)] (fun y => y = .agg [avI ((a / Nat.gcd a b : Nat) : Int), avI ((b / Nat.gcd a b : Nat) : Int)]) := by
 refine SpecN.of_VCN Tryz.func115 rfl Tryz.ntmps115 (Nle rfl) fun w A hB => ?_
 have hnew : True := trivial
 refine VC.sr ?_
 refine VO.op rfl (OpE.alloc rfl hB rfl Tryz.zeroValue39 rfl ?_)
 intro g4
 refine VO.nil ?_
 refine VC.sr ?_
 refine VO.mv rfl rfl rfl rfl ?_
 refine VO.mv rfl rfl rfl rfl ?_
 refine VO.ma rfl rfl rfl rfl ?_
 refine VO.ma rfl rfl rfl rfl ?_
 refine VO.nil ?_
 refine VC.seq ?_
 refine VC.block ?_
 refine VC.loopK [(0, _), (1, _), (4, _)] ⟨rfl, rfl, rfl, trivial⟩ ({z : Nat × Nat // Nat.gcd z.1 z.2 = Nat.gcd a b ∧ z.1 ≤ 4000000000000000000 ∧ z.2 ≤ 4000000000000000000}) (fun (iZ : {z : Nat × Nat // Nat.gcd z.1 z.2 = Nat.gcd a b ∧ z.1 ≤ 4000000000000000000 ∧ z.2 ≤ 4000000000000000000}) => match iZ with | ⟨⟨x, y⟩, hg, hx, hy⟩ => [(5, avI (x : Int)), (6, avI (y : Int))]) (fun (iZ : {z : Nat × Nat // Nat.gcd z.1 z.2 = Nat.gcd a b ∧ z.1 ≤ 4000000000000000000 ∧ z.2 ≤ 4000000000000000000}) => match iZ with | ⟨⟨x, y⟩, hg, hx, hy⟩ => [.box g4 ⟨[avI 0, avI 0], 39, 2⟩]) (fun (iZ : {z : Nat × Nat // Nat.gcd z.1 z.2 = Nat.gcd a b ∧ z.1 ≤ 4000000000000000000 ∧ z.2 ≤ 4000000000000000000}) => match iZ with | ⟨⟨x, y⟩, hg, hx, hy⟩ => 0) (fun (iZ : {z : Nat × Nat // Nat.gcd z.1 z.2 = Nat.gcd a b ∧ z.1 ≤ 4000000000000000000 ∧ z.2 ≤ 4000000000000000000}) => match iZ with | ⟨⟨x, y⟩, hg, hx, hy⟩ => y) ⟨(a, b), rfl, ha, hb⟩ (Le.mk hB [0] ⟨rfl, rfl, rfl, rfl, rfl, trivial⟩ rfl rfl (Nat.le_refl _)) ?_
 rintro ⟨⟨x, y⟩, hg, hx, hy⟩
 show VC _ _ _ _ ⟨[(5, avI (x : Int)), (6, avI (y : Int))] ++ [(0, _), (1, _), (4, _)], [.box g4 ⟨[avI 0, avI 0], 39, 2⟩], 0⟩
 simp only at hg hx hy
 refine VC.seq ?_
 refine VC.sr ?_
 refine VO.mv rfl rfl rfl rfl ?_
 refine VO.val rfl rfl (OpV.neq rfl rfl rfl) ?_
 refine VO.nil ?_
 refine VC.cond rfl (fun h1b => ?_) (fun h1b => ?_)
 ·have h1 := h1b
  try simp only [qqT, qqF, qqN, qqM, qqL, qqE] at h1
  refine VC.skip ?_
  refine VC.block ?_
  refine VC.draw (fun _ => NoB) hB (by kernel_rfl) ?_
  refine VA.take (i := 0) rfl (by kernel_rfl) (by kernel_rfl) (by kernel_rfl) rfl rfl (OpV.move (.inl rfl) rfl) ?_
  refine VA.take (i := 1) rfl (by kernel_rfl) (by kernel_rfl) (by kernel_rfl) rfl rfl (OpV.move (.inl rfl) rfl) ?_
  refine VA.take (i := 2) rfl (by kernel_rfl) (by kernel_rfl) (by kernel_rfl) rfl rfl (OpV.move (.inl rfl) rfl) ?_
  refine VA.take (i := 3) rfl (by kernel_rfl) (by kernel_rfl) (by kernel_rfl) rfl rfl (OpV.rem rfl rfl rfl (by omega) (by have h2 := tmod_bd (a := (x : Int)) (b := (y : Int)) (M := 4000000000000000000) (by omega); unfold fits; omega)) ?_
  refine VA.take (i := 4) rfl (by kernel_rfl) (by kernel_rfl) (by kernel_rfl) rfl rfl (OpV.move (.inr rfl) rfl) ?_
  refine VA.take (i := 5) rfl (by kernel_rfl) (by kernel_rfl) (by kernel_rfl) rfl rfl (OpV.move (.inr rfl) rfl) ?_
  refine VA.done (by kernel_rfl) ?_
  have hmd := Nat.mod_lt x (by omega : y > 0)
  exact Exists.intro (⟨(y, x % y), by show Nat.gcd y (x % y) = _; rw [← hg, Nat.gcd_comm y, ← Nat.gcd_rec, Nat.gcd_comm], hy, by have := Nat.mod_lt x (by omega : y > 0); show x % y ≤ _; omega⟩) (And.intro (Le.mk hB [0] ⟨rfl, rfl, rfl, rfl, rfl, trivial⟩ rfl rfl (Nat.le_refl _)) (by first | omega | (show _ < _; omega) | (simp only []; omega)))
 ·have h1 := h1b
  try simp only [qqT, qqF, qqN, qqM, qqL, qqE] at h1
  obtain rfl : y = 0 := by omega
  rw [Nat.gcd_zero_right] at hg
  have hx0 := Nat.gcd_pos_of_pos_right a h0
  subst hg
  refine VC.exit ?_
  refine VC.seq ?_
  refine VC.draw (fun j b => j = 7 ∧ b = g4) hB (by kernel_rfl) ?_
  refine VA.take (i := 0) rfl (by kernel_rfl) (by kernel_rfl) (by kernel_rfl) rfl rfl (OpV.move (.inl rfl) rfl) ?_
  refine VA.take (i := 1) rfl (by kernel_rfl) (by kernel_rfl) (by kernel_rfl) rfl rfl (OpV.move (.inl rfl) rfl) ?_
  refine VA.take (i := 2) rfl (by kernel_rfl) (by kernel_rfl) (by kernel_rfl) rfl rfl (OpV.quo rfl rfl rfl (by omega) (by have h1 := tdiv_bd (a := (a : Int)) (b := (Nat.gcd a b : Int)) (M := 4000000000000000000) (by omega); have h2 := tdiv_bd (a := (b : Int)) (b := (Nat.gcd a b : Int)) (M := 4000000000000000000) (by omega); unfold fits; omega)) ?_
  refine VA.take (i := 3) rfl (by kernel_rfl) (by kernel_rfl) (by kernel_rfl) rfl rfl (OpV.move (.inl rfl) rfl) ?_
  refine VA.take (i := 4) rfl (by kernel_rfl) (by kernel_rfl) (by kernel_rfl) rfl rfl (OpV.move (.inl rfl) rfl) ?_
  refine VA.take (i := 5) rfl (by kernel_rfl) (by kernel_rfl) (by kernel_rfl) rfl rfl (OpV.quo rfl rfl rfl (by omega) (by have h1 := tdiv_bd (a := (a : Int)) (b := (Nat.gcd a b : Int)) (M := 4000000000000000000) (by omega); have h2 := tdiv_bd (a := (b : Int)) (b := (Nat.gcd a b : Int)) (M := 4000000000000000000) (by omega); unfold fits; omega)) ?_
  refine VA.take (i := 6) rfl (by kernel_rfl) (by kernel_rfl) (by kernel_rfl) rfl rfl (OpV.build (pls := #[(0, 1), (1, 1)]) rfl Tryz.zeroValue39 Tryz.underlying39 (fun w => by kernel_rfl) rfl rfl) ?_
  refine VA.all (rs := [7]) (by kernel_rfl) (by decide) ?_
  refine ⟨⟨_, rfl, .inl rfl, ?_⟩, trivial⟩
  refine OpE.store (i := 0) rfl hB rfl Tryz.sizeOf39 rfl rfl rfl rfl rfl rfl (Nle rfl) (by first | exact ⟨rfl, rfl⟩ | exact .inl ⟨rfl, rfl⟩ | exact .inr ⟨rfl, rfl⟩ | exact ⟨rfl, trivial⟩ | exact .inl ⟨rfl, trivial⟩ | exact .inr ⟨rfl, trivial⟩ | exact ⟨by decide, rfl⟩) ?_
  refine VA.done (by kernel_rfl) ?_
  refine VC.ret ?_
  exact Exists.intro _ (And.intro (RetN.one Tryz.results115 ((by first | exact ResN.cellF (i := 0) Tryz.isAgg39 Tryz.sizeOf39 rfl rfl rfl (flat_ofB rfl)))) (rfl))
end Go.Proofs.YtaaokimiadfidaaGreatDoor
namespace Go.Proofs.YtaaokimiadfidaaGreatDoor
open Go.RowKit
set_option linter.unusedVariables false
set_option linter.unusedSimpArgs false
abbrev eBl : Bool → AV := fun b => avB b
abbrev boxLk (g : Nat) (x : LookS) (ty : TypeId) : Ent := .box g ⟨[avS x.board, avS x.name, avI x.at_, avI x.verdict, avB x.bad, avS x.machine, avS x.nozzle, avS x.reel], ty, 8⟩
theorem Le.litsS {B : Bs} {s : St'} {t n : Nat} {xs : List ByteArray} (hn : n = xs.length) (ht : look s.sl t = some (.im n 1 fun j => (strsL xs).getD j .any)) : Le B s ⟨(t, avStrs xs) :: s.sl, s.hp, s.k⟩ := Le.recast ht fun w Z u h => Rep.strs hn h
set_option maxRecDepth 100000 in
theorem cmp_isNaN_int {a : Int}  :
  SpecN Tryz.prog 279 [avI a] (fun y => y = avB false) := by
 refine SpecN.of_VCN Tryz.func279 rfl Tryz.ntmps279 (Nle rfl) fun w A hB => ?_
 have hnew : True := trivial
 refine VC.sr ?_
 refine VO.ma rfl rfl rfl rfl ?_
 refine VO.nil ?_
 refine VC.sr ?_
 refine VO.mv rfl rfl rfl rfl ?_
 refine VO.mv rfl rfl rfl rfl ?_
 refine VO.val rfl rfl (OpV.neq rfl rfl rfl) ?_
 refine VO.ma rfl rfl rfl rfl ?_
 refine VO.nil ?_
 refine VC.ret ?_
 exact Exists.intro _ (And.intro (RetN.one Tryz.results279 (ResN.v rfl)) (by simp))
set_option maxRecDepth 100000 in
theorem cmp_Compare_int {a b : Int}  :
  SpecN Tryz.prog 177 [avI a, avI b] (fun y => y = avI (cmpI a b)) := by
 refine SpecN.of_VCN Tryz.func177 rfl Tryz.ntmps177 (Nle rfl) fun w A hB => ?_
 have hnew : True := trivial
 refine VC.sr ?_
 refine VO.ma rfl rfl rfl rfl ?_
 refine VO.nil ?_
 refine VC.sr ?_
 refine VO.mv rfl rfl rfl rfl ?_
 refine VO.op rfl (OpE.call rfl hB rfl Tryz.call279 rfl (SpecN.spec (cmp_isNaN_int)) ?_)
 rintro _ rfl
 refine VO.ma rfl rfl rfl rfl ?_
 refine VO.nil ?_
 refine VC.sr ?_
 refine VO.mv rfl rfl rfl rfl ?_
 refine VO.op rfl (OpE.call rfl hB rfl Tryz.call279 rfl (SpecN.spec (cmp_isNaN_int)) ?_)
 rintro _ rfl
 refine VO.ma rfl rfl rfl rfl ?_
 refine VO.nil ?_
 refine VC.seq ?_
 refine VC.sr ?_
 refine VO.mv rfl rfl rfl rfl ?_
 refine VO.nil ?_
 refine VC.condF rfl rfl ?_
 refine VC.skip ?_
 refine VC.seq ?_
 refine VC.sr ?_
 refine VO.mv rfl rfl rfl rfl ?_
 refine VO.nil ?_
 refine VC.condF rfl rfl ?_
 refine VC.skip ?_
 refine VC.seq ?_
 refine VC.sr ?_
 refine VO.mv rfl rfl rfl rfl ?_
 refine VO.mv rfl rfl rfl rfl ?_
 refine VO.val rfl rfl (OpV.lss rfl rfl rfl) ?_
 refine VO.nil ?_
 refine VC.cond rfl (fun aH1b => ?_) (fun aH1b => ?_)
 ·have aH1 := aH1b
  try simp only [qqT, qqF, qqN, qqM, qqL, qqE] at aH1
  refine VC.sr ?_
  refine VO.ma rfl rfl rfl rfl ?_
  refine VO.nil ?_
  refine VC.ret ?_
  exact Exists.intro _ (And.intro (RetN.one Tryz.results177 (ResN.v rfl)) (by rw [cmpI, if_pos (by assumption)]))
 ·have aH1 := aH1b
  try simp only [qqT, qqF, qqN, qqM, qqL, qqE] at aH1
  refine VC.skip ?_
  refine VC.seq ?_
  refine VC.sr ?_
  refine VO.mv rfl rfl rfl rfl ?_
  refine VO.mv rfl rfl rfl rfl ?_
  refine VO.val rfl rfl (OpV.gtr rfl rfl rfl) ?_
  refine VO.nil ?_
  refine VC.cond rfl (fun aH2b => ?_) (fun aH2b => ?_)
  ·have aH2 := aH2b
   try simp only [qqT, qqF, qqN, qqM, qqL, qqE] at aH2
   refine VC.sr ?_
   refine VO.ma rfl rfl rfl rfl ?_
   refine VO.nil ?_
   refine VC.ret ?_
   exact Exists.intro _ (And.intro (RetN.one Tryz.results177 (ResN.v rfl)) (by rw [cmpI, if_neg (by omega), if_pos (by assumption)]))
  ·have aH2 := aH2b
   try simp only [qqT, qqF, qqN, qqM, qqL, qqE] at aH2
   refine VC.skip ?_
   refine VC.sr ?_
   refine VO.ma rfl rfl rfl rfl ?_
   refine VO.nil ?_
   refine VC.ret ?_
   exact Exists.intro _ (And.intro (RetN.one Tryz.results177 (ResN.v rfl)) (by rw [cmpI, if_neg (by omega), if_neg (by omega)]))
set_option maxRecDepth 100000 in
theorem cmp_Or_int {xs : List Int} (hl : xs.length ≤ 1000000000) :
  SpecN Tryz.prog 176 [avInts xs] (fun y => y = avI (errsF xs)) := by
 refine SpecN.of_VCN Tryz.func176 rfl Tryz.ntmps176 (Nle rfl) fun w A hB => ?_
 have hnew : True := trivial
 refine VC.sr ?_
 refine VO.ma rfl rfl rfl rfl ?_
 refine VO.nil ?_
 refine VC.sr ?_
 refine VO.ma rfl rfl rfl rfl ?_
 refine VO.nil ?_
 refine VC.seq ?_
 refine VC.sr ?_
 refine VO.mv rfl rfl rfl rfl ?_
 refine VO.val rfl rfl (OpV.len_im rfl Tryz.underlying22 rfl) ?_
 refine VO.mv rfl rfl rfl rfl ?_
 refine VO.nil ?_
 refine VC.block ?_
 refine VC.loopK [(3, _), (6, _), (7, _)] ⟨rfl, rfl, rfl, trivial⟩ ({q : Nat // q ≤ xs.length ∧ ∀ j, j < q → xs.getD j 0 = 0}) (fun (iZ : {q : Nat // q ≤ xs.length ∧ ∀ j, j < q → xs.getD j 0 = 0}) => match iZ with | ⟨q, hq, hn⟩ => [(8, avI (q : Int))]) (fun (iZ : {q : Nat // q ≤ xs.length ∧ ∀ j, j < q → xs.getD j 0 = 0}) => match iZ with | ⟨q, hq, hn⟩ => []) (fun (iZ : {q : Nat // q ≤ xs.length ∧ ∀ j, j < q → xs.getD j 0 = 0}) => match iZ with | ⟨q, hq, hn⟩ => 0) (fun (iZ : {q : Nat // q ≤ xs.length ∧ ∀ j, j < q → xs.getD j 0 = 0}) => match iZ with | ⟨q, hq, hn⟩ => xs.length - q) ⟨0, Nat.zero_le _, fun j hj => absurd hj (Nat.not_lt_zero j)⟩ (Le.mk hB [] ⟨rfl, rfl, rfl, rfl, trivial⟩ rfl rfl (Nat.le_refl _)) ?_
 rintro ⟨q, hq, hn⟩
 show VC _ _ _ _ ⟨[(8, avI (q : Int))] ++ [(3, _), (6, _), (7, _)], [], 0⟩
 refine VC.sr ?_
 refine VO.val rfl rfl (OpV.lss rfl rfl rfl) ?_
 refine VO.nil ?_
 refine VC.seq ?_
 refine VC.cond rfl (fun aH1b => ?_) (fun aH1b => ?_)
 ·have aH1 := aH1b
  try simp only [qqT, qqF, qqN, qqM, qqL, qqE] at aH1
  refine VC.skip ?_
  refine VC.seq ?_
  refine VC.block ?_
  refine VC.sr ?_
  refine VO.val rfl rfl (OpV.indexAddr_1 rfl Tryz.underlying22 Tryz.sizeOf3 rfl rfl rfl (by omega)) ?_
  refine VO.val rfl rfl (OpV.load_at rfl hB OutW.no Tryz.isAgg3 rfl rfl) ?_
  refine VO.ma rfl rfl rfl rfl ?_
  refine VO.nil ?_
  refine VC.sr ?_
  refine VO.mv rfl rfl rfl rfl ?_
  refine VO.mv rfl rfl rfl rfl ?_
  refine VO.val rfl rfl (OpV.neq rfl rfl rfl) ?_
  refine VO.nil ?_
  refine VC.cond rfl (fun h1b => ?_) (fun h1b => ?_)
  ·have h1 := h1b
   try simp only [qqT, qqF, qqN, qqM, qqL, qqE] at h1
   refine VC.sr ?_
   refine VO.mv rfl rfl rfl rfl ?_
   refine VO.ma rfl rfl rfl rfl ?_
   refine VO.nil ?_
   refine VC.ret ?_
   exact Exists.intro _ (And.intro (RetN.one Tryz.results176 (ResN.v rfl)) (by rw [errsF_at (q := q) (by omega) hn h1]))
  ·have h1 := h1b
   try simp only [qqT, qqF, qqN, qqM, qqL, qqE] at h1
   refine VC.skip ?_
   refine VC.region ?_
   refine VO.val rfl rfl (OpV.add rfl rfl rfl (by unfold fits; omega)) ?_
   refine VO.mv rfl rfl rfl rfl ?_
   refine VO.nil ?_
   exact Exists.intro (⟨q + 1, by omega, lt_succ_cases hn ((by omega))⟩) (And.intro (Le.mk hB [] ⟨rfl, rfl, rfl, rfl, trivial⟩ rfl rfl (Nat.le_refl _)) (by first | omega | (show _ < _; omega) | (simp only []; omega)))
 ·have aH1 := aH1b
  try simp only [qqT, qqF, qqN, qqM, qqL, qqE] at aH1
  refine VC.exit ?_
  refine VC.sr ?_
  refine VO.mv rfl rfl rfl rfl ?_
  refine VO.ma rfl rfl rfl rfl ?_
  refine VO.nil ?_
  refine VC.ret ?_
  exact Exists.intro _ (And.intro (RetN.one Tryz.results176 (ResN.v rfl)) (by rw [errsF_none (fun j hj => hn j (by omega))]))
set_option maxRecDepth 100000 in
theorem inspect_compare {a b : LookS}  :
  SpecN Tryz.prog 302 [avLk a, avLk b] (fun y => y = avI (cmpLk a b)) := by
 refine SpecN.of_VCN Tryz.func302 rfl Tryz.ntmps302 (Nle rfl) fun w A hB => ?_
 have hnew : True := trivial
 refine VC.sr ?_
 refine VO.op rfl (OpE.box rfl hB rfl rfl rfl ?_)
 intro g2
 refine VO.op rfl (OpE.box rfl hB rfl rfl rfl ?_)
 intro g3
 refine VO.ma rfl rfl rfl rfl ?_
 refine VO.nil ?_
 refine VC.seq ?_
 refine VC.draw (fun _ => NoB) hB (by kernel_rfl) ?_
 refine VA.take (i := 0) rfl (by kernel_rfl) (by kernel_rfl) (by kernel_rfl) rfl rfl (OpV.fieldAddrO 2 rfl Tryz.underlying33 rfl rfl Tryz.sizeOf3 rfl) ?_
 refine VA.take (i := 1) rfl (by kernel_rfl) (by kernel_rfl) (by kernel_rfl) rfl rfl (OpV.load_own (i := 0) rfl hB Tryz.isAgg3 rfl rfl rfl Wi.not0) ?_
 refine VA.take (i := 2) rfl (by kernel_rfl) (by kernel_rfl) (by kernel_rfl) rfl rfl (OpV.fieldAddrO 2 rfl Tryz.underlying33 rfl rfl Tryz.sizeOf3 rfl) ?_
 refine VA.take (i := 3) rfl (by kernel_rfl) (by kernel_rfl) (by kernel_rfl) rfl rfl (OpV.load_own (i := 1) rfl hB Tryz.isAgg3 rfl rfl rfl Wi.not0) ?_
 refine VA.take (i := 5) rfl (by kernel_rfl) (by kernel_rfl) (by kernel_rfl) rfl rfl (OpV.fieldAddrO 0 rfl Tryz.underlying33 rfl rfl Tryz.sizeOf9 rfl) ?_
 refine VA.take (i := 6) rfl (by kernel_rfl) (by kernel_rfl) (by kernel_rfl) rfl rfl (OpV.load_own (i := 0) rfl hB Tryz.isAgg9 rfl rfl rfl Wi.not0) ?_
 refine VA.take (i := 7) rfl (by kernel_rfl) (by kernel_rfl) (by kernel_rfl) rfl rfl (OpV.fieldAddrO 0 rfl Tryz.underlying33 rfl rfl Tryz.sizeOf9 rfl) ?_
 refine VA.take (i := 8) rfl (by kernel_rfl) (by kernel_rfl) (by kernel_rfl) rfl rfl (OpV.load_own (i := 1) rfl hB Tryz.isAgg9 rfl rfl rfl Wi.not0) ?_
 refine VA.take (i := 10) rfl (by kernel_rfl) (by kernel_rfl) (by kernel_rfl) rfl rfl (OpV.fieldAddrO 1 rfl Tryz.underlying33 rfl rfl Tryz.sizeOf9 rfl) ?_
 refine VA.take (i := 11) rfl (by kernel_rfl) (by kernel_rfl) (by kernel_rfl) rfl rfl (OpV.load_own (i := 0) rfl hB Tryz.isAgg9 rfl rfl rfl Wi.not0) ?_
 refine VA.take (i := 12) rfl (by kernel_rfl) (by kernel_rfl) (by kernel_rfl) rfl rfl (OpV.fieldAddrO 1 rfl Tryz.underlying33 rfl rfl Tryz.sizeOf9 rfl) ?_
 refine VA.take (i := 13) rfl (by kernel_rfl) (by kernel_rfl) (by kernel_rfl) rfl rfl (OpV.load_own (i := 1) rfl hB Tryz.isAgg9 rfl rfl rfl Wi.not0) ?_
 refine VA.all (rs := [4]) (by kernel_rfl) (by decide) ?_
 refine ⟨⟨_, rfl, .inl rfl, ?_⟩, trivial⟩
 refine OpE.call rfl hB rfl Tryz.call177 rfl (SpecN.spec (cmp_Compare_int)) ?_
 rintro _ rfl
 refine VA.all (rs := [9]) (by kernel_rfl) (by decide) ?_
 refine ⟨⟨_, rfl, .inl rfl, ?_⟩, trivial⟩
 refine OpE.call rfl hB rfl Tryz.call150 rfl (SpecN.spec (strings_Compare_S)) ?_
 rintro _ rfl
 refine VA.all (rs := [14]) (by kernel_rfl) (by decide) ?_
 refine ⟨⟨_, rfl, .inl rfl, ?_⟩, trivial⟩
 refine OpE.call rfl hB rfl Tryz.call150 rfl (SpecN.spec (strings_Compare_S)) ?_
 rintro _ rfl
 refine VA.all (rs := [15]) (by kernel_rfl) (by decide) ?_
 refine ⟨⟨_, rfl, .inl rfl, ?_⟩, trivial⟩
 refine OpE.buildSlice (zc := #[.int .i64 0, .int .i64 0, .int .i64 0]) rfl hB rfl Tryz.underlying22 Tryz.sizeOf3 Tryz.zeroValue3 (by decide) (by decide) (by kernel_rfl) rfl rfl ?_
 refine VA.le _ (Le.lits (t := 20) (xs := [cmpI a.at_ b.at_, cmpB a.board b.board, cmpB a.name b.name]) rfl rfl) ?_
 refine VA.all (rs := [16]) (by kernel_rfl) (by decide) ?_
 refine ⟨⟨_, rfl, .inl rfl, ?_⟩, trivial⟩
 refine OpE.call rfl hB rfl Tryz.call176 rfl (SpecN.spec (cmp_Or_int (by simp))) ?_
 rintro _ rfl
 refine VA.take (i := 17) rfl (by kernel_rfl) (by kernel_rfl) (by kernel_rfl) rfl rfl (OpV.move (.inr rfl) rfl) ?_
 refine VA.done (by kernel_rfl) ?_
 refine VC.ret ?_
 exact Exists.intro _ (And.intro (RetN.one Tryz.results302 (ResN.v rfl)) (rfl))
set_option maxRecDepth 100000 in
theorem kit_IsMoment {n : Int}  :
  SpecN Tryz.prog 117 [avI n] (fun y => y = avB (!outR n 0 345686399999)) := by
 refine SpecN.of_VCN Tryz.func117 rfl Tryz.ntmps117 (Nle rfl) fun w A hB => ?_
 have hnew : True := trivial
 refine VC.sr ?_
 refine VO.ma rfl rfl rfl rfl ?_
 refine VO.nil ?_
 refine VC.sr ?_
 refine VO.mv rfl rfl rfl rfl ?_
 refine VO.op rfl (OpE.call rfl hB rfl Tryz.call119 rfl (SpecN.spec (kit_Outside)) ?_)
 rintro _ rfl
 refine VO.val rfl rfl (OpV.not rfl rfl) ?_
 refine VO.ma rfl rfl rfl rfl ?_
 refine VO.nil ?_
 refine VC.ret ?_
 exact Exists.intro _ (And.intro (RetN.one Tryz.results117 (ResN.v rfl)) (rfl))
set_option maxRecDepth 100000 in
set_option maxHeartbeats 4000000 in
theorem inspect_lookFault {l : List LookS} {i : Nat} (hs : SmLk l) (hi : i < l.length) :
  SpecN Tryz.prog 230 [avL l, avI (i : Int)] (fun y => y = avI (lookE l i)) := by
 refine SpecN.of_VCN Tryz.func230 rfl Tryz.ntmps230 (Nle rfl) fun w A hB => ?_
 have hnew : True := trivial
 refine VC.seq ?_
 have hl := hs.len
 have h5 : (lkStrs (l.getD i default)).length = 5 := rfl
 refine VC.region ?_
 refine VO.ma rfl rfl rfl rfl ?_
 refine VO.nil ?_
 refine VC.sr ?_
 refine VO.mv rfl rfl rfl rfl ?_
 refine VO.mv rfl rfl rfl rfl ?_
 refine VO.val rfl rfl (OpV.indexAddr_E rfl Tryz.underlying26 Tryz.sizeOf33 rfl rfl rfl (by omega)) ?_
 refine VO.val rfl rfl (OpV.loadK_at rfl hB OutW.no Tryz.isAgg33 Tryz.sizeOf33 rfl rfl) ?_
 refine VO.op rfl (OpE.alloc rfl hB rfl Tryz.zeroValue33 rfl ?_)
 intro g5
 refine VO.op rfl (OpE.store (i := 0) rfl hB rfl Tryz.sizeOf33 rfl rfl rfl rfl rfl rfl (Nle rfl) trivial ?_)
 refine VO.nil ?_
 refine VC.seq ?_
 refine VC.sr ?_
 refine VO.val rfl rfl (OpV.fieldAddrO 0 rfl Tryz.underlying33 rfl rfl Tryz.sizeOf9 rfl) ?_
 refine VO.val rfl rfl (OpV.load_own (i := 0) rfl hB Tryz.isAgg9 rfl rfl rfl (fun h => h)) ?_
 refine VO.val rfl rfl (OpV.fieldAddrO 1 rfl Tryz.underlying33 rfl rfl Tryz.sizeOf9 rfl) ?_
 refine VO.val rfl rfl (OpV.load_own (i := 0) rfl hB Tryz.isAgg9 rfl rfl rfl (fun h => h)) ?_
 refine VO.val rfl rfl (OpV.fieldAddrO 5 rfl Tryz.underlying33 rfl rfl Tryz.sizeOf9 rfl) ?_
 refine VO.val rfl rfl (OpV.load_own (i := 0) rfl hB Tryz.isAgg9 rfl rfl rfl (fun h => h)) ?_
 refine VO.val rfl rfl (OpV.fieldAddrO 6 rfl Tryz.underlying33 rfl rfl Tryz.sizeOf9 rfl) ?_
 refine VO.val rfl rfl (OpV.load_own (i := 0) rfl hB Tryz.isAgg9 rfl rfl rfl (fun h => h)) ?_
 refine VO.val rfl rfl (OpV.fieldAddrO 7 rfl Tryz.underlying33 rfl rfl Tryz.sizeOf9 rfl) ?_
 refine VO.val rfl rfl (OpV.load_own (i := 0) rfl hB Tryz.isAgg9 rfl rfl rfl (fun h => h)) ?_
 refine VO.op rfl (OpE.buildSlice (zc := #[.string ⟨#[]⟩, .string ⟨#[]⟩, .string ⟨#[]⟩, .string ⟨#[]⟩, .string ⟨#[]⟩]) rfl hB rfl Tryz.underlying67 Tryz.sizeOf9 Tryz.zeroValue9 (by decide) (by decide) (by kernel_rfl) rfl rfl ?_)
 refine VO.le _ (Le.litsS (t := 22) (xs := lkStrs (l.getD i default)) rfl rfl) ?_
 refine VO.val rfl rfl (OpV.len_im rfl Tryz.underlying67 rfl) ?_
 refine VO.mv rfl rfl rfl rfl ?_
 refine VO.nil ?_
 refine VC.block ?_
 refine VC.loopK [(0, _), (1, _), (5, _), (22, _), (23, _)] ⟨rfl, rfl, rfl, rfl, rfl, trivial⟩ ({q : Nat // q ≤ 5 ∧ ∀ j, j < q → keyF ((lkStrs (l.getD i default)).getD j ByteArray.empty) = true}) (fun (iZ : {q : Nat // q ≤ 5 ∧ ∀ j, j < q → keyF ((lkStrs (l.getD i default)).getD j ByteArray.empty) = true}) => match iZ with | ⟨q, hq, hn⟩ => [(24, avI (q : Int))]) (fun (iZ : {q : Nat // q ≤ 5 ∧ ∀ j, j < q → keyF ((lkStrs (l.getD i default)).getD j ByteArray.empty) = true}) => match iZ with | ⟨q, hq, hn⟩ => [boxLk g5 (l.getD i default) 33]) (fun (iZ : {q : Nat // q ≤ 5 ∧ ∀ j, j < q → keyF ((lkStrs (l.getD i default)).getD j ByteArray.empty) = true}) => match iZ with | ⟨q, hq, hn⟩ => 0) (fun (iZ : {q : Nat // q ≤ 5 ∧ ∀ j, j < q → keyF ((lkStrs (l.getD i default)).getD j ByteArray.empty) = true}) => match iZ with | ⟨q, hq, hn⟩ => 5 - q) ⟨0, Nat.zero_le _, fun j hj => absurd hj (Nat.not_lt_zero j)⟩ (Le.mk hB [0] ⟨rfl, rfl, rfl, rfl, rfl, rfl, trivial⟩ rfl rfl (Nat.le_refl _)) ?_
 rintro ⟨q, hq, hn⟩
 show VC _ _ _ _ ⟨[(24, avI (q : Int))] ++ [(0, _), (1, _), (5, _), (22, _), (23, _)], [boxLk g5 (l.getD i default) 33], 0⟩
 refine VC.sr ?_
 refine VO.val rfl rfl (OpV.lss rfl rfl rfl) ?_
 refine VO.nil ?_
 refine VC.seq ?_
 refine VC.cond rfl (fun aH1b => ?_) (fun aH1b => ?_)
 ·have aH1 := aH1b
  try simp only [qqT, qqF, qqN, qqM, qqL, qqE] at aH1
  refine VC.skip ?_
  refine VC.seq ?_
  refine VC.block ?_
  refine VC.sr ?_
  refine VO.val rfl rfl (OpV.indexAddr_1 rfl Tryz.underlying67 Tryz.sizeOf9 rfl rfl rfl (by omega)) ?_
  refine VO.val rfl rfl (OpV.load_at rfl hB OutW.no Tryz.isAgg9 rfl rfl) ?_
  refine VO.ma rfl rfl rfl rfl ?_
  refine VO.nil ?_
  refine VC.sr ?_
  refine VO.mv rfl rfl rfl rfl ?_
  refine VO.op rfl (OpE.call rfl hB rfl Tryz.call116 rfl (SpecN.spec (kit_IsKey (by have := lk_sz hs i q; omega))) ?_)
  rintro _ rfl
  refine VO.val rfl rfl (OpV.not rfl rfl) ?_
  refine VO.nil ?_
  refine VC.cond rfl (fun h1b => ?_) (fun h1b => ?_)
  ·have h1 := h1b
   try simp only [qqT, qqF, qqN, qqM, qqL, qqE] at h1
   refine VC.sr ?_
   refine VO.ma rfl rfl rfl rfl ?_
   refine VO.nil ?_
   refine VC.ret ?_
   exact Exists.intro _ (And.intro (RetN.one Tryz.results230 (ResN.v rfl)) (by rw [lookE_5 (all_no (d := ByteArray.empty) (q := q) (by show q < 5; omega) (by assumption))]))
  ·have h1 := h1b
   try simp only [qqT, qqF, qqN, qqM, qqL, qqE] at h1
   refine VC.skip ?_
   refine VC.region ?_
   refine VO.val rfl rfl (OpV.add rfl rfl rfl (by unfold fits; omega)) ?_
   refine VO.mv rfl rfl rfl rfl ?_
   refine VO.nil ?_
   exact Exists.intro (⟨q + 1, by omega, lt_succ_cases hn ((by assumption))⟩) (And.intro (Le.mk hB [0] ⟨rfl, rfl, rfl, rfl, rfl, rfl, trivial⟩ rfl rfl (Nat.le_refl _)) (by first | omega | (show _ < _; omega) | (simp only []; omega)))
 ·have aH1 := aH1b
  try simp only [qqT, qqF, qqN, qqM, qqL, qqE] at aH1
  have hk : (lkStrs (l.getD i default)).all keyF = true := all_yes (d := ByteArray.empty) (fun j hj => hn j (by simp [lkStrs] at hj; omega))
  refine VC.exit ?_
  refine VC.seq ?_
  refine VC.block ?_
  refine VC.sr ?_
  refine VO.val rfl rfl (OpV.fieldAddrO 2 rfl Tryz.underlying33 rfl rfl Tryz.sizeOf3 rfl) ?_
  refine VO.val rfl rfl (OpV.load_own (i := 0) rfl hB Tryz.isAgg3 rfl rfl rfl (fun h => h)) ?_
  refine VO.op rfl (OpE.call rfl hB rfl Tryz.call117 rfl (SpecN.spec (kit_IsMoment)) ?_)
  rintro _ rfl
  refine VO.val rfl rfl (OpV.not rfl rfl) ?_
  refine VO.ma rfl rfl rfl rfl ?_
  refine VO.nil ?_
  refine VC.cond rfl (fun h2b => ?_) (fun h2b => ?_)
  ·have h2 := h2b
   try simp only [qqT, qqF, qqN, qqM, qqL, qqE] at h2
   refine VC.sr ?_
   refine VO.ma rfl rfl rfl rfl ?_
   refine VO.nil ?_
   refine VC.ret ?_
   exact Exists.intro _ (And.intro (RetN.one Tryz.results230 (ResN.v rfl)) (by rw [lookE_1 hk h2]))
  ·have h2 := h2b
   try simp only [qqT, qqF, qqN, qqM, qqL, qqE] at h2
   refine VC.sr ?_
   refine VO.val rfl rfl (OpV.fieldAddrO 3 rfl Tryz.underlying33 rfl rfl Tryz.sizeOf3 rfl) ?_
   refine VO.val rfl rfl (OpV.load_own (i := 0) rfl hB Tryz.isAgg3 rfl rfl rfl (fun h => h)) ?_
   refine VO.op rfl (OpE.call rfl hB rfl Tryz.call119 rfl (SpecN.spec (kit_Outside)) ?_)
   rintro _ rfl
   refine VO.ma rfl rfl rfl rfl ?_
   refine VO.nil ?_
   refine VC.cond rfl (fun h3b => ?_) (fun h3b => ?_)
   ·have h3 := h3b
    try simp only [qqT, qqF, qqN, qqM, qqL, qqE] at h3
    refine VC.sr ?_
    refine VO.ma rfl rfl rfl rfl ?_
    refine VO.nil ?_
    refine VC.ret ?_
    exact Exists.intro _ (And.intro (RetN.one Tryz.results230 (ResN.v rfl)) (by rw [lookE_4 hk h2 h3]))
   ·have h3 := h3b
    try simp only [qqT, qqF, qqN, qqM, qqL, qqE] at h3
    refine VC.seq ?_
    refine VC.draw (fun _ => NoB) hB (by kernel_rfl) ?_
    refine VA.take (i := 0) rfl (by kernel_rfl) (by kernel_rfl) (by kernel_rfl) rfl rfl (OpV.move (.inl rfl) rfl) ?_
    refine VA.take (i := 1) rfl (by kernel_rfl) (by kernel_rfl) (by kernel_rfl) rfl rfl (OpV.gtr rfl rfl rfl) ?_
    refine VA.take (i := 2) rfl (by kernel_rfl) (by kernel_rfl) (by kernel_rfl) rfl rfl (OpV.move (.inl rfl) rfl) ?_
    refine VA.split (t := 44) rfl (fun aK2b => ?_) (fun aK2b => ?_)
    ·have aK2 := aK2b
     try simp only [qqT, qqF, qqN, qqM, qqL, qqE] at aK2
     refine VA.takeY (i := 3) rfl (by kernel_rfl) (by kernel_rfl) (by kernel_rfl) rfl rfl rfl rfl aK2b (OpV.move (.inl rfl) rfl) ?_
     refine VA.takeY (i := 4) rfl (by kernel_rfl) (by kernel_rfl) (by kernel_rfl) rfl rfl rfl rfl aK2b (OpV.move (.inl rfl) rfl) ?_
     refine VA.takeY (i := 5) rfl (by kernel_rfl) (by kernel_rfl) (by kernel_rfl) rfl rfl rfl rfl aK2b (OpV.sub rfl rfl rfl (by unfold fits; omega)) ?_
     refine VA.takeY (i := 6) rfl (by kernel_rfl) (by kernel_rfl) (by kernel_rfl) rfl rfl rfl rfl aK2b (OpV.indexAddr_E rfl Tryz.underlying26 Tryz.sizeOf33 rfl rfl (show ((i : Int) - 1) = ((i - 1 : Nat) : Int) by omega) (by omega)) ?_
     refine VA.takeY (i := 7) rfl (by kernel_rfl) (by kernel_rfl) (by kernel_rfl) rfl rfl rfl rfl aK2b (OpV.loadK_at rfl hB OutW.wi0 Tryz.isAgg33 Tryz.sizeOf33 rfl rfl) ?_
     refine VA.takeY (i := 8) rfl (by kernel_rfl) (by kernel_rfl) (by kernel_rfl) rfl rfl rfl rfl aK2b (OpV.loadK_own (i := 0) rfl hB Tryz.isAgg33 Tryz.sizeOf33 rfl rfl rfl Wi.not0) ?_
     refine VA.all (rs := [9]) (by kernel_rfl) (by decide) ?_
     refine ⟨⟨_, rfl, .inr ⟨_, _, _, rfl, rfl, (look_k rfl aK2b)⟩, ?_⟩, trivial⟩
     refine OpE.call rfl hB rfl Tryz.call302 rfl (SpecN.spec (inspect_compare (a := l.getD (i - 1) default) (b := l.getD i default))) ?_
     rintro _ rfl
     refine VA.takeY (i := 10) rfl (by kernel_rfl) (by kernel_rfl) (by kernel_rfl) rfl rfl rfl rfl aK2b (OpV.geq rfl rfl rfl) ?_
     refine VA.take (i := 11) rfl (by kernel_rfl) (by kernel_rfl) (by kernel_rfl) rfl rfl (OpV.pickT rfl rfl rfl rfl aK2b) ?_
     refine VA.take (i := 12) rfl (by kernel_rfl) (by kernel_rfl) (by kernel_rfl) rfl rfl (OpV.move (.inr rfl) rfl) ?_
     refine VA.done (by kernel_rfl) ?_
     refine VC.cond rfl (fun h4b => ?_) (fun h4b => ?_)
     ·have h4 := h4b
      try simp only [qqT, qqF, qqN, qqM, qqL, qqE] at h4
      refine VC.sr ?_
      refine VO.ma rfl rfl rfl rfl ?_
      refine VO.nil ?_
      refine VC.ret ?_
      exact Exists.intro _ (And.intro (RetN.one Tryz.results230 (ResN.v rfl)) (by rw [lookE_7 hk h2 h3 (by omega) h4]))
     ·have h4 := h4b
      try simp only [qqT, qqF, qqN, qqM, qqL, qqE] at h4
      refine VC.skip ?_
      refine VC.sr ?_
      refine VO.ma rfl rfl rfl rfl ?_
      refine VO.nil ?_
      refine VC.ret ?_
      exact Exists.intro _ (And.intro (RetN.one Tryz.results230 (ResN.v rfl)) (by first | rw [lookE_0 hk h2 h3 (.inr (by omega))] | rw [lookE_0 hk h2 h3 (.inl (by omega))]))
    ·have aK2 := aK2b
     try simp only [qqT, qqF, qqN, qqM, qqL, qqE] at aK2
     refine VA.takeX (i := 3) rfl (by kernel_rfl) (by kernel_rfl) (by kernel_rfl) rfl rfl rfl rfl aK2b ?_
     refine VA.takeX (i := 4) rfl (by kernel_rfl) (by kernel_rfl) (by kernel_rfl) rfl rfl rfl rfl aK2b ?_
     refine VA.takeX (i := 5) rfl (by kernel_rfl) (by kernel_rfl) (by kernel_rfl) rfl rfl rfl rfl aK2b ?_
     refine VA.takeX (i := 6) rfl (by kernel_rfl) (by kernel_rfl) (by kernel_rfl) rfl rfl rfl rfl aK2b ?_
     refine VA.takeX (i := 7) rfl (by kernel_rfl) (by kernel_rfl) (by kernel_rfl) rfl rfl rfl rfl aK2b ?_
     refine VA.takeX (i := 8) rfl (by kernel_rfl) (by kernel_rfl) (by kernel_rfl) rfl rfl rfl rfl aK2b ?_
     refine VA.takeX (i := 9) rfl (by kernel_rfl) (by kernel_rfl) (by kernel_rfl) rfl rfl rfl rfl aK2b ?_
     refine VA.takeX (i := 10) rfl (by kernel_rfl) (by kernel_rfl) (by kernel_rfl) rfl rfl rfl rfl aK2b ?_
     refine VA.take (i := 11) rfl (by kernel_rfl) (by kernel_rfl) (by kernel_rfl) rfl rfl (OpV.pickF rfl rfl rfl rfl aK2b) ?_
     refine VA.take (i := 12) rfl (by kernel_rfl) (by kernel_rfl) (by kernel_rfl) rfl rfl (OpV.move (.inr rfl) rfl) ?_
     refine VA.done (by kernel_rfl) ?_
     refine VC.condF rfl rfl ?_
     refine VC.skip ?_
     refine VC.sr ?_
     refine VO.ma rfl rfl rfl rfl ?_
     refine VO.nil ?_
     refine VC.ret ?_
     exact Exists.intro _ (And.intro (RetN.one Tryz.results230 (ResN.v rfl)) (by first | rw [lookE_0 hk h2 h3 (.inr (by omega))] | rw [lookE_0 hk h2 h3 (.inl (by omega))]))
theorem seen_get (l : List LookS) (q : Nat) : mgetD (seenL (l.take q)) ((l.getD q default).board, (l.getD q default).name) false = (l.take q).any fun o => sameT o (l.getD q default) := seenL_get _ _
theorem seen_take {l : List LookS} {q : Nat} (h : q < l.length) (hx : (l.take q).any (fun o => sameT o (l.getD q default)) = false) : mput (seenL (l.take q)) ((l.getD q default).board, (l.getD q default).name) true = seenL (l.take (q + 1)) := by
 rw [seenL_new hx]
 rw [List.take_add_one, List.getD_eq_getElem?_getD, List.getElem?_eq_getElem h]; rfl
set_option maxRecDepth 100000 in
theorem plK : KeyOk Tryz.prog 264 kv2 := KeyOk.str2 Tryz.underlying264 (by kernel_rfl) (rfl : Tryz.prog.fieldsOf 264 = #[_, _]) Tryz.underlying9 Tryz.underlying9 Tryz.isAgg9 Tryz.isAgg9 rfl rfl (by decide) (by decide)
set_option maxRecDepth 100000 in
set_option maxHeartbeats 4000000 in
theorem inspect_CheckLooks {l : List LookS} (hs : SmLk l) :
  SpecN Tryz.prog 105 [avL l] (fun y => y = avI (lookF l)) := by
 refine SpecN.of_VCN Tryz.func105 rfl Tryz.ntmps105 (Nle rfl) fun w A hB => ?_
 have hnew : True := trivial
 refine VC.seq ?_
 have hl := hs.len
 refine VC.region ?_
 refine VO.ma rfl rfl rfl rfl ?_
 refine VO.nil ?_
 refine VC.seq ?_
 refine VC.sr ?_
 refine VO.mv rfl rfl rfl rfl ?_
 refine VO.val rfl rfl (OpV.len_im rfl Tryz.underlying26 rfl) ?_
 refine VO.val rfl rfl (OpV.gtr rfl rfl rfl) ?_
 refine VO.nil ?_
 refine VC.cond rfl (fun h0b => ?_) (fun h0b => ?_)
 ·have h0 := h0b
  try simp only [qqT, qqF, qqN, qqM, qqL, qqE] at h0
  refine VC.sr ?_
  refine VO.ma rfl rfl rfl rfl ?_
  refine VO.nil ?_
  refine VC.ret ?_
  exact Exists.intro _ (And.intro (RetN.one Tryz.results105 (ResN.v rfl)) (by rw [lookF_2 (by omega)]))
 ·have h0 := h0b
  try simp only [qqT, qqF, qqN, qqM, qqL, qqE] at h0
  refine VC.skip ?_
  refine VC.seq ?_
  refine VC.sr ?_
  refine VO.mv rfl rfl rfl rfl ?_
  refine VO.val rfl rfl (OpV.len_im rfl Tryz.underlying26 rfl) ?_
  refine VO.mv rfl rfl rfl rfl ?_
  refine VO.nil ?_
  refine VC.block ?_
  refine VC.loopK [(0, _), (13, _)] ⟨rfl, rfl, trivial⟩ ({q : Nat // q ≤ l.length ∧ ∀ j, j < q → lookE l j = 0}) (fun (iZ : {q : Nat // q ≤ l.length ∧ ∀ j, j < q → lookE l j = 0}) => match iZ with | ⟨q, hq, hn⟩ => [(14, avI (q : Int))]) (fun (iZ : {q : Nat // q ≤ l.length ∧ ∀ j, j < q → lookE l j = 0}) => match iZ with | ⟨q, hq, hn⟩ => []) (fun (iZ : {q : Nat // q ≤ l.length ∧ ∀ j, j < q → lookE l j = 0}) => match iZ with | ⟨q, hq, hn⟩ => 0) (fun (iZ : {q : Nat // q ≤ l.length ∧ ∀ j, j < q → lookE l j = 0}) => match iZ with | ⟨q, hq, hn⟩ => l.length - q) ⟨0, Nat.zero_le _, fun j hj => absurd hj (Nat.not_lt_zero j)⟩ (Le.mk hB [] ⟨rfl, rfl, rfl, trivial⟩ rfl rfl (Nat.le_refl _)) ?_
  rintro ⟨q, hq, hn⟩
  show VC _ _ _ _ ⟨[(14, avI (q : Int))] ++ [(0, _), (13, _)], [], 0⟩
  refine VC.sr ?_
  refine VO.val rfl rfl (OpV.lss rfl rfl rfl) ?_
  refine VO.nil ?_
  refine VC.seq ?_
  refine VC.cond rfl (fun aH1b => ?_) (fun aH1b => ?_)
  ·have aH1 := aH1b
   try simp only [qqT, qqF, qqN, qqM, qqL, qqE] at aH1
   refine VC.skip ?_
   refine VC.seq ?_
   refine VC.block ?_
   refine VC.sr ?_
   refine VO.mv rfl rfl rfl rfl ?_
   refine VO.ma rfl rfl rfl rfl ?_
   refine VO.nil ?_
   refine VC.sr ?_
   refine VO.mv rfl rfl rfl rfl ?_
   refine VO.mv rfl rfl rfl rfl ?_
   refine VO.op rfl (OpE.call rfl hB rfl Tryz.call230 rfl (SpecN.spec (inspect_lookFault hs (by omega))) ?_)
   rintro _ rfl
   refine VO.ma rfl rfl rfl rfl ?_
   refine VO.nil ?_
   refine VC.sr ?_
   refine VO.mv rfl rfl rfl rfl ?_
   refine VO.val rfl rfl (OpV.neq rfl rfl rfl) ?_
   refine VO.nil ?_
   refine VC.cond rfl (fun h2b => ?_) (fun h2b => ?_)
   ·have h2 := h2b
    try simp only [qqT, qqF, qqN, qqM, qqL, qqE] at h2
    refine VC.sr ?_
    refine VO.mv rfl rfl rfl rfl ?_
    refine VO.ma rfl rfl rfl rfl ?_
    refine VO.nil ?_
    refine VC.ret ?_
    exact Exists.intro _ (And.intro (RetN.one Tryz.results105 (ResN.v rfl)) (by rw [lookF_at (by omega) (by omega) hn h2]))
   ·have h2 := h2b
    try simp only [qqT, qqF, qqN, qqM, qqL, qqE] at h2
    refine VC.skip ?_
    refine VC.region ?_
    refine VO.val rfl rfl (OpV.add rfl rfl rfl (by unfold fits; omega)) ?_
    refine VO.mv rfl rfl rfl rfl ?_
    refine VO.nil ?_
    exact Exists.intro (⟨q + 1, by omega, lt_succ_cases hn ((by omega))⟩) (And.intro (Le.mk hB [] ⟨rfl, rfl, rfl, trivial⟩ rfl rfl (Nat.le_refl _)) (by first | omega | (show _ < _; omega) | (simp only []; omega)))
  ·have aH1 := aH1b
   try simp only [qqT, qqF, qqN, qqM, qqL, qqE] at aH1
   refine VC.exit ?_
   refine VC.seq ?_
   have hl0 : ∀ j, j < l.length → lookE l j = 0 := fun j hj => hn j (by omega)
   refine VC.region ?_
   refine VO.op rfl (OpE.makeMap (kv2) (eBl) rfl hB rfl ?_)
   intro g24
   refine VO.ma rfl rfl rfl rfl ?_
   refine VO.nil ?_
   refine VC.seq ?_
   refine VC.sr ?_
   refine VO.mv rfl rfl rfl rfl ?_
   refine VO.val rfl rfl (OpV.len_im rfl Tryz.underlying26 rfl) ?_
   refine VO.mv rfl rfl rfl rfl ?_
   refine VO.nil ?_
   refine VC.block ?_
   refine VC.loopK [(5, _), (25, _), (26, _)] ⟨rfl, rfl, rfl, trivial⟩ ({r : Nat // r ≤ l.length ∧ ∀ j, j < r → twE l j = 0}) (fun (iZ : {r : Nat // r ≤ l.length ∧ ∀ j, j < r → twE l j = 0}) => match iZ with | ⟨r, hq1, hn1⟩ => [(27, avI (r : Int))]) (fun (iZ : {r : Nat // r ≤ l.length ∧ ∀ j, j < r → twE l j = 0}) => match iZ with | ⟨r, hq1, hn1⟩ => [mapE kv2 g24 eBl (seenL (l.take r))]) (fun (iZ : {r : Nat // r ≤ l.length ∧ ∀ j, j < r → twE l j = 0}) => match iZ with | ⟨r, hq1, hn1⟩ => 0) (fun (iZ : {r : Nat // r ≤ l.length ∧ ∀ j, j < r → twE l j = 0}) => match iZ with | ⟨r, hq1, hn1⟩ => l.length - r) ⟨0, Nat.zero_le _, fun j hj => absurd hj (Nat.not_lt_zero j)⟩ (Le.mk hB [0] ⟨rfl, rfl, rfl, rfl, trivial⟩ rfl rfl (Nat.le_refl _)) ?_
   rintro ⟨r, hq1, hn1⟩
   show VC _ _ _ _ ⟨[(27, avI (r : Int))] ++ [(5, _), (25, _), (26, _)], [mapE kv2 g24 eBl (seenL (l.take r))], 0⟩
   refine VC.sr ?_
   refine VO.val rfl rfl (OpV.lss rfl rfl rfl) ?_
   refine VO.nil ?_
   refine VC.seq ?_
   refine VC.cond rfl (fun aH2b => ?_) (fun aH2b => ?_)
   ·have aH2 := aH2b
    try simp only [qqT, qqF, qqN, qqM, qqL, qqE] at aH2
    refine VC.skip ?_
    refine VC.seq ?_
    refine VC.block ?_
    refine VC.sr ?_
    refine VO.val rfl rfl (OpV.indexAddr_E rfl Tryz.underlying26 Tryz.sizeOf33 rfl rfl rfl (by omega)) ?_
    refine VO.val rfl rfl (OpV.loadK_at rfl hB OutW.no Tryz.isAgg33 Tryz.sizeOf33 rfl rfl) ?_
    refine VO.op rfl (OpE.alloc rfl hB rfl Tryz.zeroValue33 rfl ?_)
    intro g7
    refine VO.op rfl (OpE.store (i := 1) rfl hB rfl Tryz.sizeOf33 rfl rfl rfl rfl rfl rfl (Nle rfl) trivial ?_)
    refine VO.nil ?_
    refine VC.sr ?_
    refine VO.val rfl rfl (OpV.fieldAddrO 0 rfl Tryz.underlying33 rfl rfl Tryz.sizeOf9 rfl) ?_
    refine VO.val rfl rfl (OpV.load_own (i := 1) rfl hB Tryz.isAgg9 rfl rfl rfl (fun h => h)) ?_
    refine VO.val rfl rfl (OpV.fieldAddrO 1 rfl Tryz.underlying33 rfl rfl Tryz.sizeOf9 rfl) ?_
    refine VO.val rfl rfl (OpV.load_own (i := 1) rfl hB Tryz.isAgg9 rfl rfl rfl (fun h => h)) ?_
    refine VO.val rfl rfl (OpV.build (pls := #[(0, 1), (1, 1)]) rfl Tryz.zeroValue264 Tryz.underlying264 (fun w => by kernel_rfl) rfl rfl) ?_
    refine VO.op rfl (OpE.alloc rfl hB rfl Tryz.zeroValue264 rfl ?_)
    intro g8
    refine VO.op rfl (OpE.store (i := 2) rfl hB rfl Tryz.sizeOf264 rfl rfl rfl rfl rfl rfl (Nle rfl) trivial ?_)
    refine VO.nil ?_
    refine VC.seq ?_
    refine VC.sr ?_
    refine VO.mv rfl rfl rfl rfl ?_
    refine VO.val rfl rfl (OpV.loadK_own (i := 2) rfl hB Tryz.isAgg264 Tryz.sizeOf264 rfl rfl rfl (fun h => h)) ?_
    refine VO.val rfl rfl (OpV.lookup_own (i := 0) (k := ((l.getD r default).board, (l.getD r default).name)) rfl hB Tryz.underlying262 plK Tryz.zeroValue4 rfl (KeyE.agg2 rfl) rfl (fun h => h)) ?_
    refine VO.le _ (Le.recast (t := 38) (y := avB ((l.take r).any fun o => sameT o (l.getD r default))) rfl (fun w Z u h => by rw [← seen_get]; unfold mgetD; revert h; cases mget (seenL (l.take r)) ((l.getD r default).board, (l.getD r default).name) <;> exact id)) ?_
    refine VO.nil ?_
    refine VC.cond rfl (fun htb => ?_) (fun htb => ?_)
    ·have ht := htb
     try simp only [qqT, qqF, qqN, qqM, qqL, qqE] at ht
     refine VC.sr ?_
     refine VO.ma rfl rfl rfl rfl ?_
     refine VO.nil ?_
     refine VC.ret ?_
     exact Exists.intro _ (And.intro (RetN.one Tryz.results105 (ResN.v rfl)) (by rw [lookF_tw (by omega) hl0 (by omega) hn1 (by rw [twE_6 ht]; decide), twE_6 ht]))
    ·have ht := htb
     try simp only [qqT, qqF, qqN, qqM, qqL, qqE] at ht
     refine VC.skip ?_
     refine VC.region ?_
     refine VO.mv rfl rfl rfl rfl ?_
     refine VO.val rfl rfl (OpV.loadK_own (i := 2) rfl hB Tryz.isAgg264 Tryz.sizeOf264 rfl rfl rfl (fun h => h)) ?_
     refine VO.op rfl (OpE.mapUpdate (i := 0) (k := ((l.getD r default).board, (l.getD r default).name)) (xx := true) rfl hB rfl Tryz.underlying262 plK rfl (KeyE.agg2 rfl) rfl rfl trivial ?_)
     refine VO.nil ?_
     refine VC.region ?_
     refine VO.val rfl rfl (OpV.add rfl rfl rfl (by unfold fits; omega)) ?_
     refine VO.mv rfl rfl rfl rfl ?_
     refine VO.nil ?_
     exact Exists.intro (⟨r + 1, by omega, lt_succ_cases hn1 ((twE_0 ht))⟩) (And.intro (Le.mk hB [0] ⟨rfl, rfl, rfl, rfl, trivial⟩ rfl (by dsimp only; rw [seen_take (by omega) ht]; rfl) (Nat.le_refl _)) (by first | omega | (show _ < _; omega) | (simp only []; omega)))
   ·have aH2 := aH2b
    try simp only [qqT, qqF, qqN, qqM, qqL, qqE] at aH2
    refine VC.exit ?_
    refine VC.sr ?_
    refine VO.ma rfl rfl rfl rfl ?_
    refine VO.nil ?_
    refine VC.ret ?_
    exact Exists.intro _ (And.intro (RetN.one Tryz.results105 (ResN.v rfl)) (by rw [lookF_ok (by omega) hl0 (fun j hj => hn1 j (by omega))]))
set_option maxRecDepth 100000 in
theorem share_add {g a b : Nat} {x : LookS} (ha : a ≤ 1000000000) (hb : b ≤ 1000000000) :
  SpecH Tryz.prog 118 [.v (.pointer (some ⟨g, 0, none⟩)), avLk x] [.box g ⟨[avI (b : Int), avI (a : Int)], 162, 2⟩] (fun y hp' => y = .tup [] ∧ hp' = [.box g ⟨[avI ((b + if x.bad = true then 1 else 0 : Nat) : Int), avI ((a + 1 : Nat) : Int)], 162, 2⟩]) := by
 refine SpecH.of_VC Tryz.func118 rfl Tryz.ntmps118 (Nle rfl) fun w A hB => ?_
 have hnew : True := trivial
 refine VC.sr ?_
 refine VO.op rfl (OpE.box rfl hB rfl rfl rfl ?_)
 intro g3
 refine VO.nil ?_
 refine VC.sr ?_
 refine VO.mv rfl rfl rfl rfl ?_
 refine VO.val rfl rfl (OpV.nilCheck rfl rfl) ?_
 refine VO.val rfl rfl (OpV.fieldAddrO 1 rfl Tryz.underlying162 rfl rfl Tryz.sizeOf3 rfl) ?_
 refine VO.val rfl rfl (OpV.load_own (i := 0) rfl hB Tryz.isAgg3 rfl rfl rfl (fun h => h)) ?_
 refine VO.val rfl rfl (OpV.add rfl rfl rfl (by unfold fits; omega)) ?_
 refine VO.val rfl rfl (OpV.nilCheck rfl rfl) ?_
 refine VO.val rfl rfl (OpV.fieldAddrO 1 rfl Tryz.underlying162 rfl rfl Tryz.sizeOf3 rfl) ?_
 refine VO.op rfl (OpE.store (i := 0) rfl hB rfl Tryz.sizeOf3 rfl rfl rfl rfl rfl rfl (Nle rfl) trivial ?_)
 refine VO.nil ?_
 refine VC.sr ?_
 refine VO.val rfl rfl (OpV.fieldAddrO 4 rfl Tryz.underlying33 rfl rfl Tryz.sizeOf4 rfl) ?_
 refine VO.val rfl rfl (OpV.load_own (i := 1) rfl hB Tryz.isAgg4 rfl rfl rfl (fun h => h)) ?_
 refine VO.nil ?_
 refine VC.cond rfl (fun h0b => ?_) (fun h0b => ?_)
 ·have h0 := h0b
  try simp only [qqT, qqF, qqN, qqM, qqL, qqE] at h0
  refine VC.le _ (Le.pickH [0] rfl rfl) ?_
  refine VC.region ?_
  refine VO.mv rfl rfl rfl rfl ?_
  refine VO.val rfl rfl (OpV.nilCheck rfl rfl) ?_
  refine VO.val rfl rfl (OpV.fieldAddrO 0 rfl Tryz.underlying162 rfl rfl Tryz.sizeOf3 rfl) ?_
  refine VO.val rfl rfl (OpV.load_own (i := 0) rfl hB Tryz.isAgg3 rfl rfl rfl (fun h => h)) ?_
  refine VO.val rfl rfl (OpV.add rfl rfl rfl (by unfold fits; omega)) ?_
  refine VO.val rfl rfl (OpV.nilCheck rfl rfl) ?_
  refine VO.val rfl rfl (OpV.fieldAddrO 0 rfl Tryz.underlying162 rfl rfl Tryz.sizeOf3 rfl) ?_
  refine VO.op rfl (OpE.store (i := 0) rfl hB rfl Tryz.sizeOf3 rfl rfl rfl rfl rfl rfl (Nle rfl) trivial ?_)
  refine VO.nil ?_
  exact Exists.intro _ (And.intro (RetV.none Tryz.results118) (by first | exact ⟨rfl, by rw [if_pos h0]; rfl⟩ | exact ⟨rfl, by rw [if_neg (by rw [h0]; simp)]; rfl⟩))
 ·have h0 := h0b
  try simp only [qqT, qqF, qqN, qqM, qqL, qqE] at h0
  refine VC.le _ (Le.pickH [0] rfl rfl) ?_
  refine VC.skip ?_
  exact Exists.intro _ (And.intro (RetV.none Tryz.results118) (by first | exact ⟨rfl, by rw [if_pos h0]; rfl⟩ | exact ⟨rfl, by rw [if_neg (by rw [h0]; simp)]; rfl⟩))
set_option maxRecDepth 100000 in
theorem inspect_shareOf {l : List LookS} (hl : l.length ≤ 1000000) :
  SpecN Tryz.prog 113 [avL l] (fun y => y = .agg [avI (badN l : Int), avI (l.length : Int)]) := by
 refine SpecN.of_VCN Tryz.func113 rfl Tryz.ntmps113 (Nle rfl) fun w A hB => ?_
 have hnew : True := trivial
 refine VC.sr ?_
 refine VO.op rfl (OpE.alloc rfl hB rfl Tryz.zeroValue162 rfl ?_)
 intro g2
 refine VO.nil ?_
 refine VC.sr ?_
 refine VO.op rfl (OpE.alloc rfl hB rfl Tryz.zeroValue162 rfl ?_)
 intro g3
 refine VO.nil ?_
 refine VC.seq ?_
 refine VC.sr ?_
 refine VO.mv rfl rfl rfl rfl ?_
 refine VO.val rfl rfl (OpV.len_im rfl Tryz.underlying26 rfl) ?_
 refine VO.mv rfl rfl rfl rfl ?_
 refine VO.nil ?_
 refine VC.block ?_
 refine VC.loopK [(2, _), (3, _), (6, _), (7, _)] ⟨rfl, rfl, rfl, rfl, trivial⟩ ({q : Nat // q ≤ l.length}) (fun (iZ : {q : Nat // q ≤ l.length}) => match iZ with | ⟨q, hq⟩ => [(8, avI (q : Int))]) (fun (iZ : {q : Nat // q ≤ l.length}) => match iZ with | ⟨q, hq⟩ => [.box g2 ⟨[avI 0, avI 0], 162, 2⟩, .box g3 ⟨[avI (badN (l.take q) : Int), avI (q : Int)], 162, 2⟩]) (fun (iZ : {q : Nat // q ≤ l.length}) => match iZ with | ⟨q, hq⟩ => 0) (fun (iZ : {q : Nat // q ≤ l.length}) => match iZ with | ⟨q, hq⟩ => l.length - q) ⟨0, Nat.zero_le _⟩ (Le.mk hB [0, 1] ⟨rfl, rfl, rfl, rfl, rfl, trivial⟩ rfl rfl (Nat.le_refl _)) ?_
 rintro ⟨q, hq⟩
 show VC _ _ _ _ ⟨[(8, avI (q : Int))] ++ [(2, _), (3, _), (6, _), (7, _)], [.box g2 ⟨[avI 0, avI 0], 162, 2⟩, .box g3 ⟨[avI (badN (l.take q) : Int), avI (q : Int)], 162, 2⟩], 0⟩
 refine VC.sr ?_
 refine VO.val rfl rfl (OpV.lss rfl rfl rfl) ?_
 refine VO.nil ?_
 refine VC.seq ?_
 refine VC.cond rfl (fun aH1b => ?_) (fun aH1b => ?_)
 ·have aH1 := aH1b
  try simp only [qqT, qqF, qqN, qqM, qqL, qqE] at aH1
  refine VC.skip ?_
  refine VC.seq ?_
  refine VC.block ?_
  refine VC.sr ?_
  refine VO.val rfl rfl (OpV.indexAddr_E rfl Tryz.underlying26 Tryz.sizeOf33 rfl rfl rfl (by omega)) ?_
  refine VO.val rfl rfl (OpV.loadK_at rfl hB OutW.no Tryz.isAgg33 Tryz.sizeOf33 rfl rfl) ?_
  refine VO.op rfl (OpE.alloc rfl hB rfl Tryz.zeroValue33 rfl ?_)
  intro g5
  refine VO.op rfl (OpE.store (i := 2) rfl hB rfl Tryz.sizeOf33 rfl rfl rfl rfl rfl rfl (Nle rfl) trivial ?_)
  refine VO.nil ?_
  refine VC.region ?_
  refine VO.val rfl rfl (OpV.loadK_own (i := 2) rfl hB Tryz.isAgg33 Tryz.sizeOf33 rfl rfl rfl (fun h => h)) ?_
  have hbn := badN_le (l.take q)
  have hbl := List.length_take_le q l
  refine VO.op rfl (OpE.callH (rest := [_, _]) rfl hB rfl Tryz.call118 rfl rfl (share_add (x := l.getD q default) (a := q) (b := badN (l.take q)) (by omega) (by omega)) (List.Perm.swap _ _ _) (fun _ _ => trivial) ?_)
  rintro _ _ ⟨rfl, rfl⟩
  refine VO.nil ?_
  refine VC.region ?_
  refine VO.val rfl rfl (OpV.add rfl rfl rfl (by unfold fits; omega)) ?_
  refine VO.mv rfl rfl rfl rfl ?_
  refine VO.nil ?_
  exact Exists.intro (⟨q + 1, by omega⟩) (And.intro (Le.pick hB [1, 0] ⟨rfl, rfl, rfl, rfl, rfl, trivial⟩ rfl (by dsimp only; rw [badN_take (by omega)]; rfl) (Nat.le_refl _)) (by first | omega | (show _ < _; omega) | (simp only []; omega)))
 ·have aH1 := aH1b
  try simp only [qqT, qqF, qqN, qqM, qqL, qqE] at aH1
  refine VC.exit ?_
  refine VC.seq ?_
  have hqe : l.take q = l := List.take_of_length_le (by omega)
  have hql : q = l.length := by omega
  rw [hqe, hql]
  refine VC.region ?_
  refine VO.val rfl rfl (OpV.loadK_own (i := 1) rfl hB Tryz.isAgg162 Tryz.sizeOf162 rfl rfl rfl (fun h => h)) ?_
  refine VO.op rfl (OpE.store (i := 0) rfl hB rfl Tryz.sizeOf162 rfl rfl rfl rfl rfl rfl (Nle rfl) trivial ?_)
  refine VO.nil ?_
  refine VC.ret ?_
  exact Exists.intro _ (And.intro (RetN.one Tryz.results113 ((by first | exact ResN.cellF (i := 0) Tryz.isAgg162 Tryz.sizeOf162 rfl rfl rfl (flat_ofB rfl) | exact ResN.cellF (i := 1) Tryz.isAgg162 Tryz.sizeOf162 rfl rfl rfl (flat_ofB rfl)))) (rfl))
set_option maxRecDepth 100000 in
theorem inspect_Million {l : List LookS} (hs : SmLk l) :
  SpecN Tryz.prog 137 [avL l] (fun y => y = .tup [.agg [avI ((millN l).1 : Int), avI ((millN l).2 : Int)], avI (millE l)]) := by
 refine SpecN.of_VCN Tryz.func137 rfl Tryz.ntmps137 (Nle rfl) fun w A hB => ?_
 have hnew : True := trivial
 refine VC.sr ?_
 refine VO.op rfl (OpE.alloc rfl hB rfl Tryz.zeroValue39 rfl ?_)
 intro g2
 refine VO.ma rfl rfl rfl rfl ?_
 refine VO.nil ?_
 refine VC.seq ?_
 refine VC.sr ?_
 refine VO.mv rfl rfl rfl rfl ?_
 refine VO.op rfl (OpE.call rfl hB rfl Tryz.call105 rfl (SpecN.spec (inspect_CheckLooks hs)) ?_)
 rintro _ rfl
 refine VO.ma rfl rfl rfl rfl ?_
 refine VO.nil ?_
 refine VC.sr ?_
 refine VO.mv rfl rfl rfl rfl ?_
 refine VO.val rfl rfl (OpV.neq rfl rfl rfl) ?_
 refine VO.nil ?_
 refine VC.cond rfl (fun h0b => ?_) (fun h0b => ?_)
 ·have h0 := h0b
  try simp only [qqT, qqF, qqN, qqM, qqL, qqE] at h0
  refine VC.sr ?_
  refine VO.val rfl rfl (OpV.build (pls := #[(0, 1), (1, 1)]) rfl Tryz.zeroValue39 Tryz.underlying39 (fun w => by kernel_rfl) rfl rfl) ?_
  refine VO.mv rfl rfl rfl rfl ?_
  refine VO.op rfl (OpE.store (i := 0) rfl hB rfl Tryz.sizeOf39 rfl rfl rfl rfl rfl rfl (Nle rfl) trivial ?_)
  refine VO.ma rfl rfl rfl rfl ?_
  refine VO.nil ?_
  refine VC.ret ?_
  exact Exists.intro _ (And.intro (RetN.two Tryz.results137 ((by first | exact ResN.cellF (i := 0) Tryz.isAgg39 Tryz.sizeOf39 rfl rfl rfl (flat_ofB rfl))) (ResN.v rfl)) (by rw [millN, if_neg (by rw [millE_1 h0]; exact h0), millE_1 h0]; rfl))
 ·have h0 := h0b
  try simp only [qqT, qqF, qqN, qqM, qqL, qqE] at h0
  refine VC.skip ?_
  refine VC.seq ?_
  refine VC.sr ?_
  refine VO.mv rfl rfl rfl rfl ?_
  refine VO.val rfl rfl (OpV.len_im rfl Tryz.underlying26 rfl) ?_
  refine VO.val rfl rfl (OpV.eql rfl rfl rfl) ?_
  refine VO.nil ?_
  refine VC.cond rfl (fun h1b => ?_) (fun h1b => ?_)
  ·have h1 := h1b
   try simp only [qqT, qqF, qqN, qqM, qqL, qqE] at h1
   refine VC.sr ?_
   refine VO.val rfl rfl (OpV.build (pls := #[(0, 1), (1, 1)]) rfl Tryz.zeroValue39 Tryz.underlying39 (fun w => by kernel_rfl) rfl rfl) ?_
   refine VO.op rfl (OpE.store (i := 0) rfl hB rfl Tryz.sizeOf39 rfl rfl rfl rfl rfl rfl (Nle rfl) trivial ?_)
   refine VO.ma rfl rfl rfl rfl ?_
   refine VO.nil ?_
   refine VC.ret ?_
   exact Exists.intro _ (And.intro (RetN.two Tryz.results137 ((by first | exact ResN.cellF (i := 0) Tryz.isAgg39 Tryz.sizeOf39 rfl rfl rfl (flat_ofB rfl))) (ResN.v rfl)) (by rw [millN, if_neg (by rw [millE_8 (by omega) (by omega)]; decide), millE_8 (by omega) (by omega)]; rfl))
  ·have h1 := h1b
   try simp only [qqT, qqF, qqN, qqM, qqL, qqE] at h1
   refine VC.skip ?_
   refine VC.sr ?_
   refine VO.mv rfl rfl rfl rfl ?_
   refine VO.op rfl (OpE.call rfl hB rfl Tryz.call113 rfl (SpecN.spec (inspect_shareOf hs.len)) ?_)
   rintro _ rfl
   refine VO.op rfl (OpE.alloc rfl hB rfl Tryz.zeroValue162 rfl ?_)
   intro g5
   refine VO.op rfl (OpE.store (i := 1) rfl hB rfl Tryz.sizeOf162 rfl rfl rfl rfl rfl rfl (Nle rfl) trivial ?_)
   refine VO.nil ?_
   refine VC.sr ?_
   refine VO.val rfl rfl (OpV.fieldAddrO 0 rfl Tryz.underlying162 rfl rfl Tryz.sizeOf3 rfl) ?_
   refine VO.val rfl rfl (OpV.load_own (i := 1) rfl hB Tryz.isAgg3 rfl rfl rfl (fun h => h)) ?_
   have hbn := badN_le l
   have hll := hs.len
   refine VO.val rfl rfl (OpV.mul rfl rfl rfl (by unfold fits; omega)) ?_
   refine VO.le _ (Le.recast (t := 20) (y := avI ((badN l * 1000000 : Nat) : Int)) rfl (fun w Z u h => by rw [Int.natCast_mul]; exact h)) ?_
   refine VO.val rfl rfl (OpV.fieldAddrO 1 rfl Tryz.underlying162 rfl rfl Tryz.sizeOf3 rfl) ?_
   refine VO.val rfl rfl (OpV.load_own (i := 1) rfl hB Tryz.isAgg3 rfl rfl rfl (fun h => h)) ?_
   refine VO.op rfl (OpE.call rfl hB rfl Tryz.call115 rfl (SpecN.spec (kit_Lowest (a := badN l * 1000000) (b := l.length) (by omega) (by omega) (by omega))) ?_)
   rintro _ rfl
   refine VO.op rfl (OpE.store (i := 0) rfl hB rfl Tryz.sizeOf39 rfl rfl rfl rfl rfl rfl (Nle rfl) trivial ?_)
   refine VO.ma rfl rfl rfl rfl ?_
   refine VO.nil ?_
   refine VC.ret ?_
   exact Exists.intro _ (And.intro (RetN.two Tryz.results137 ((by first | exact ResN.cellF (i := 0) Tryz.isAgg39 Tryz.sizeOf39 rfl rfl rfl (flat_ofB rfl) | exact ResN.cellF (i := 1) Tryz.isAgg39 Tryz.sizeOf39 rfl rfl rfl (flat_ofB rfl))) (ResN.v rfl)) (by rw [millN, if_pos (millE_0 (by omega) (by omega)), millE_0 (by omega) (by omega)]; rfl))
end Go.Proofs.YtaaokimiadfidaaGreatDoor
namespace Go.Proofs.YtaaokimiadfidaaGreatDoor
open Go.RowKit
set_option linter.unusedVariables false
set_option linter.unusedSimpArgs false
theorem getDs {l : List Int} {i j : Nat} {x : Int} (hi : i < l.length) : (l.set i x).getD j 0 = if j = i then x else l.getD j 0 := by
 by_cases e : j = i
 ·subst e; simp [hi]
 ·rw [if_neg e, List.getD_eq_getElem?_getD, List.getElem?_set_ne (Ne.symm e), ← List.getD_eq_getElem?_getD]
end Go.Proofs.YtaaokimiadfidaaGreatDoor
namespace Go.Proofs
open Go.Shelf
def Tryz.sorted108_ren : Go.Shelf.Ren := ⟨fun | 6 => 108 | 8 => 231 | 9 => 40 | 11 => 303 | 13 => 143 | 12 => 142 | 23 => 254 | 24 => 255 | 14 => 246 | 15 => 247 | 16 => 248 | 17 => 249 | 18 => 250 | 19 => 251 | 20 => 171 | 21 => 252 | 22 => 253 | 25 => 316 | 26 => 317 | 27 => 318 | 28 => 319 | 29 => 320 | 30 => 275 | 31 => 379 | n => n, fun | 26 => 9 | 28 => 159 | 24 => 67 | 0 => 0 | 3 => 3 | 37 => 191 | 48 => 282 | 50 => 284 | 4 => 4 | 40 => 276 | 39 => 275 | 45 => 197 | 5 => 5 | 9 => 9 | 51 => 333 | 55 => 337 | 57 => 380 | 58 => 381 | 33 => 50 | n => n, fun | n => n⟩
theorem Tryz.sorted108 : Go.Proofs.SlLaysZ.n6 Tryz.prog Tryz.sorted108_ren := {
 mixed := by kernel_rfl
 f6 := ⟨Tryz.f108.name, by decide, Tryz.func108.trans (congrArg some (by kernel_rfl))⟩
 f8 := ⟨Tryz.f231.name, by decide, Tryz.func231.trans (congrArg some (by kernel_rfl))⟩
 f11 := ⟨Tryz.f303.name, by decide, Tryz.func303.trans (congrArg some (by kernel_rfl))⟩
 t0 := Tryz.underlying0
 a0 := Tryz.isAgg0
 z0 := Tryz.sizeOf0
 v0 := Tryz.zeroValue0
 t24 := Tryz.underlying67
 a24 := Tryz.isAgg67
 z24 := Tryz.sizeOf67
 v24 := Tryz.zeroValue67
 t26 := Tryz.underlying9
 a26 := Tryz.isAgg9
 z26 := Tryz.sizeOf9
 v26 := Tryz.zeroValue9
 t28 := Tryz.underlying159
 a28 := Tryz.isAgg159
 z28 := Tryz.sizeOf159
 v28 := Tryz.zeroValue159
 i26 := by kernel_rfl }
def Tryz.sort40_ren : Go.Shelf.Ren := ⟨fun | 6 => 40 | 8 => 143 | 9 => 142 | 19 => 254 | 20 => 255 | 21 => 246 | 22 => 247 | 23 => 248 | 24 => 249 | 25 => 250 | 26 => 251 | 27 => 171 | 28 => 252 | 29 => 253 | 36 => 316 | 31 => 317 | 32 => 318 | 37 => 319 | 38 => 320 | 39 => 275 | 41 => 379 | n => n, fun | 27 => 67 | 29 => 9 | 3 => 3 | 32 => 191 | 26 => 67 | 0 => 0 | 44 => 282 | 46 => 284 | 4 => 4 | 36 => 276 | 35 => 275 | 41 => 197 | 5 => 5 | 9 => 9 | 53 => 333 | 57 => 337 | 63 => 380 | 64 => 381 | n => n, fun | n => n⟩
theorem Tryz.sort40 : Go.Proofs.SlLaysM.n6 Tryz.prog Tryz.sort40_ren := {
 mixed := by kernel_rfl
 f6 := ⟨Tryz.f40.name, by decide, Tryz.func40.trans (congrArg some (by kernel_rfl))⟩
 f8 := Tryz.func143.trans (congrArg some (by kernel_rfl))
 f9 := ⟨Tryz.f142.name, by decide, Tryz.func142.trans (congrArg some (by kernel_rfl))⟩
 f19 := Tryz.func254.trans (congrArg some (by kernel_rfl))
 f20 := Tryz.func255.trans (congrArg some (by kernel_rfl))
 f21 := ⟨Tryz.f246.name, by decide, Tryz.func246.trans (congrArg some (by kernel_rfl))⟩
 f22 := ⟨Tryz.f247.name, by decide, Tryz.func247.trans (congrArg some (by kernel_rfl))⟩
 f23 := ⟨Tryz.f248.name, by decide, Tryz.func248.trans (congrArg some (by kernel_rfl))⟩
 f24 := ⟨Tryz.f249.name, by decide, Tryz.func249.trans (congrArg some (by kernel_rfl))⟩
 f25 := ⟨Tryz.f250.name, by decide, Tryz.func250.trans (congrArg some (by kernel_rfl))⟩
 f26 := ⟨Tryz.f251.name, by decide, Tryz.func251.trans (congrArg some (by kernel_rfl))⟩
 f27 := ⟨Tryz.f171.name, by decide, Tryz.func171.trans (congrArg some (by kernel_rfl))⟩
 f28 := ⟨Tryz.f252.name, by decide, Tryz.func252.trans (congrArg some (by kernel_rfl))⟩
 f29 := ⟨Tryz.f253.name, by decide, Tryz.func253.trans (congrArg some (by kernel_rfl))⟩
 f31 := Tryz.func317.trans (congrArg some (by kernel_rfl))
 f32 := Tryz.func318.trans (congrArg some (by kernel_rfl))
 f36 := ⟨Tryz.f316.name, by decide, Tryz.func316.trans (congrArg some (by kernel_rfl))⟩
 f37 := ⟨Tryz.f319.name, by decide, Tryz.func319.trans (congrArg some (by kernel_rfl))⟩
 f38 := ⟨Tryz.f320.name, by decide, Tryz.func320.trans (congrArg some (by kernel_rfl))⟩
 f39 := ⟨Tryz.f275.name, by decide, Tryz.func275.trans (congrArg some (by kernel_rfl))⟩
 f41 := ⟨Tryz.f379.name, by decide, Tryz.func379.trans (congrArg some (by kernel_rfl))⟩
 t0 := Tryz.underlying0
 a0 := Tryz.isAgg0
 z0 := Tryz.sizeOf0
 v0 := Tryz.zeroValue0
 t3 := Tryz.underlying3
 a3 := Tryz.isAgg3
 z3 := Tryz.sizeOf3
 v3 := Tryz.zeroValue3
 t4 := Tryz.underlying4
 a4 := Tryz.isAgg4
 z4 := Tryz.sizeOf4
 v4 := Tryz.zeroValue4
 t5 := Tryz.underlying5
 a5 := Tryz.isAgg5
 z5 := Tryz.sizeOf5
 v5 := Tryz.zeroValue5
 t9 := Tryz.underlying9
 a9 := Tryz.isAgg9
 z9 := Tryz.sizeOf9
 v9 := Tryz.zeroValue9
 t26 := Tryz.underlying67
 a26 := Tryz.isAgg67
 z26 := Tryz.sizeOf67
 v26 := Tryz.zeroValue67
 t27 := Tryz.underlying67
 a27 := Tryz.isAgg67
 z27 := Tryz.sizeOf67
 v27 := Tryz.zeroValue67
 t29 := Tryz.underlying9
 a29 := Tryz.isAgg9
 z29 := Tryz.sizeOf9
 v29 := Tryz.zeroValue9
 t32 := Tryz.underlying191
 a32 := Tryz.isAgg191
 z32 := Tryz.sizeOf191
 v32 := Tryz.zeroValue191
 t35 := Tryz.underlying275
 a35 := Tryz.isAgg275
 z35 := Tryz.sizeOf275
 v35 := Tryz.zeroValue275
 t36 := Tryz.underlying276
 a36 := Tryz.isAgg276
 z36 := Tryz.sizeOf276
 v36 := Tryz.zeroValue276
 t41 := Tryz.underlying197
 a41 := Tryz.isAgg197
 z41 := Tryz.sizeOf197
 v41 := Tryz.zeroValue197
 t44 := Tryz.underlying282
 a44 := Tryz.isAgg282
 z44 := Tryz.sizeOf282
 v44 := Tryz.zeroValue282
 t46 := Tryz.underlying284
 a46 := Tryz.isAgg284
 z46 := Tryz.sizeOf284
 v46 := Tryz.zeroValue284
 t53 := Tryz.underlying333
 a53 := Tryz.isAgg333
 z53 := Tryz.sizeOf333
 v53 := Tryz.zeroValue333
 t57 := Tryz.underlying337
 a57 := Tryz.isAgg337
 z57 := Tryz.sizeOf337
 v57 := Tryz.zeroValue337
 t63 := Tryz.underlying380
 a63 := Tryz.isAgg380
 z63 := Tryz.sizeOf380
 v63 := Tryz.zeroValue380
 t64 := Tryz.underlying381
 a64 := Tryz.isAgg381
 z64 := Tryz.sizeOf381
 v64 := Tryz.zeroValue381 }
def Tryz.keys197_ren : Go.Shelf.Ren := ⟨fun | 7 => 197 | 10 => 285 | n => n, fun | 23 => 100 | 26 => 9 | 3 => 3 | 28 => 159 | 0 => 0 | 27 => 158 | 33 => 50 | 4 => 4 | n => n, fun | n => n⟩
theorem Tryz.keys197 : Go.Proofs.SlLaysZ.n7 Tryz.prog Tryz.keys197_ren := {
 mixed := by kernel_rfl
 f7 := ⟨Tryz.f197.name, by decide, Tryz.func197.trans (congrArg some (by kernel_rfl))⟩
 f10 := ⟨Tryz.f285.name, by decide, Tryz.func285.trans (congrArg some (by kernel_rfl))⟩
 t0 := Tryz.underlying0
 a0 := Tryz.isAgg0
 z0 := Tryz.sizeOf0
 v0 := Tryz.zeroValue0
 t4 := Tryz.underlying4
 a4 := Tryz.isAgg4
 z4 := Tryz.sizeOf4
 v4 := Tryz.zeroValue4
 t23 := Tryz.underlying100
 a23 := Tryz.isAgg100
 z23 := Tryz.sizeOf100
 v23 := Tryz.zeroValue100
 t26 := Tryz.underlying9
 a26 := Tryz.isAgg9
 z26 := Tryz.sizeOf9
 v26 := Tryz.zeroValue9
 t27 := Tryz.underlying158
 a27 := Tryz.isAgg158
 z27 := Tryz.sizeOf158
 v27 := Tryz.zeroValue158
 t28 := Tryz.underlying159
 a28 := Tryz.isAgg159
 z28 := Tryz.sizeOf159
 v28 := Tryz.zeroValue159
 t33 := Tryz.underlying50
 a33 := Tryz.isAgg50
 z33 := Tryz.sizeOf50
 v33 := Tryz.zeroValue50 }
end Go.Proofs
namespace Go.Proofs.YtaaokimiadfidaaGreatDoor
open Go.RowKit Go.Maps Go.Sort Go.Shelf
set_option linter.unusedVariables false
set_option linter.unusedSimpArgs false

def bytesOf (l : List UInt8) : ByteArray := ⟨l.toArray⟩
def sKeys {α : Type} (l : List (ByteArray × α)) : List ByteArray := ((l.map fun p => p.1.data.toList).mergeSort (fun x y => decide (x ≤ y))).map bytesOf
theorem sKeys_len {α : Type} (l : List (ByteArray × α)) : (sKeys l).length = l.length := by simp [sKeys]
theorem sKeys_mem {α : Type} {l : List (ByteArray × α)} {x : ByteArray} : x ∈ sKeys l ↔ x ∈ l.map (·.1) := by
 simp only [sKeys, List.mem_map, List.mem_mergeSort, bytesOf]
 constructor
 ·rintro ⟨_, ⟨p, hp, rfl⟩, rfl⟩; exact ⟨p, hp, by simp⟩
 ·rintro ⟨p, hp, rfl⟩; exact ⟨_, ⟨p, hp, rfl⟩, by simp⟩
theorem mput_keys {α : Type} (l : List (ByteArray × α)) (k : ByteArray) (x : α) : (mput l k x).map (·.1) = if mpos l k < l.length then l.map (·.1) else l.map (·.1) ++ [k] := by
 split
 ·rename_i h
  rw [mput_old l k x h, List.map_set]
  have := mpos_key l k h
  refine List.ext_getElem (by simp) fun i h1 h2 => ?_
  simp only [List.length_set, List.length_map] at h1
  rw [List.getElem_set]
  split
  ·rename_i e; subst e; simp [this]
  ·simp
 ·rename_i h
  rw [mput_new l k x (by have := mpos_le l k; omega)]; simp
theorem mpos_mem {α : Type} {l : List (ByteArray × α)} {k : ByteArray} : mpos l k < l.length ↔ k ∈ l.map (·.1) := by
 constructor
 ·intro h; exact List.mem_map.2 ⟨_, List.getElem_mem h, mpos_key l k h⟩
 ·intro h
  obtain ⟨p, hp, e⟩ := List.mem_map.1 h
  obtain ⟨j, hj, ej⟩ := List.getElem_of_mem hp
  by_cases h1 : mpos l k < l.length
  ·exact h1
  ·have hle := mpos_le l k
   obtain ⟨_, h2⟩ := mpos_ne l k j (by omega)
   exact absurd (by rw [ej]; exact e) h2
theorem mput_nodup {α : Type} {l : List (ByteArray × α)} (h : (l.map (·.1)).Nodup) (k : ByteArray) (x : α) : ((mput l k x).map (·.1)).Nodup := by
 rw [mput_keys]
 split
 ·exact h
 ·rename_i h1
  rw [mpos_mem] at h1
  exact List.nodup_append.2 ⟨h, by simp, fun a ha b hb => by simp at hb; subst hb; exact fun e => h1 (e ▸ ha)⟩
theorem mput_mem {α : Type} {l : List (ByteArray × α)} {k : ByteArray} {x : α} {q : ByteArray} : q ∈ (mput l k x).map (·.1) ↔ q ∈ l.map (·.1) ∨ q = k := by
 rw [mput_keys]
 split
 ·rename_i h1
  rw [mpos_mem] at h1
  exact ⟨.inl, fun h => h.elim id fun e => e ▸ h1⟩
 ·simp

section
variable {P : Program} {w : World} {kt : TypeId}
theorem own_of_mapE {α : Type} {E : α → AV} {g : Nat} {l : List (ByteArray × α)} {Z : Nat → Prop} (hk : P.underlying kt = some .string) (h : EntR w Z (mapE (fun k : ByteArray => Value.string k) g E l)) (hnd : (l.map (·.1)).Nodup) (hs : ∀ p ∈ l, p.1.size ≤ maxLen) (hl : l.length ≤ maxLen) :
  ∃ D : DataW Unit, w.ownsMap P kt (fun _ => some (.nil, [])) g l.length D ∧ Maps.size D = l.length ∧ (strKeys D).Perm (l.map fun p => p.1.data.toList) := by
 obtain ⟨c, h1, h2, h3⟩ := h.toMap
 have hmem : ∀ x ∈ c.toList, ∃ j, ∃ hj : j < l.length, x = c[j]! := fun x hx => by
  obtain ⟨j, hj, rfl⟩ := List.getElem_of_mem hx
  simp at hj
  exact ⟨j, by omega, by rw [getElem!_pos c j hj]; simp⟩
 have hrd : ∀ x ∈ c.toList, ∀ j (hj : j < l.length), x = c[j]! → WideElems.rd (H := Unit) P kt (fun _ => some (.nil, [])) x = some (.string (l[j]).1.data.toList, .nil) := fun x hx j hj e => by
  have hk1 := (h3 j hj).1
  obtain ⟨key, val, born⟩ := x
  have : key = .string (l[j]).1 := by rw [← hk1, ← e]
  subst this
  exact WideElems.rd_mk (R := fun _ => some (.nil, [])) (yv := (.nil, [])) (Go.WideMaps.keyOf_string_mk hk (hs _ (List.getElem_mem hj))) rfl
 have hF : WideElems.Fit (H := Unit) P kt (fun _ => some (.nil, [])) c l.length := ⟨by omega, (MapKept.stamped_iff _ _).2 ⟨fun x hx => by
   obtain ⟨j, hj, rfl⟩ := hmem x hx
   rw [(h3 j hj).2.1]; exact hj, by
   have : c.toList.map (·.born) = List.range' 0 l.length := by
    refine List.ext_getElem (by simp [h2]) fun i k1 k2 => ?_
    simp at k1
    have := (h3 i (by omega)).2.1
    rw [getElem!_pos c i k1] at this
    simp [this]
   rw [this]; exact List.nodup_range', by
   rw [List.pairwise_iff_getElem]
   intro i j hi hj hij e
   simp at hi hj
   have k1 := (h3 i (by omega)).1
   have k2 := (h3 j (by omega)).1
   rw [getElem!_pos c i hi] at k1
   rw [getElem!_pos c j hj] at k2
   simp only [Array.getElem_toList] at e
   rw [k1, k2] at e
   have e' : (l[i]'(by omega)).1 = (l[j]'(by omega)).1 := by injection e
   have := (List.pairwise_iff_getElem.1 hnd) i j (by simp; omega) (by simp; omega) hij
   simp at this
   exact this e'⟩, fun x hx => by
   obtain ⟨j, hj, e⟩ := hmem x hx
   exact ⟨_, hrd x hx j hj e⟩⟩
 refine ⟨_, ⟨c, l.length, h1, hF, by omega, rfl⟩, ?_, ?_⟩
 ·simp [Maps.size, (WideShapes.sorted_perm _).length_eq, h2]
 ·have hp := (WideShapes.sorted_perm (c.toList.map (WideElems.rg (H := Unit) P kt fun _ => some (.nil, []))))
  refine (hp.map (fun p => Go.strOf p.1)).trans (.of_eq ?_)
  refine List.ext_getElem (by simp [h2]) fun i k1 k2 => ?_
  simp at k1 k2
  have := hrd (c[i]!) (by rw [getElem!_pos c i (by omega)]; simp) i (by omega) rfl
  rw [getElem!_pos c i (by omega)] at this
  simp [WideElems.rg_of this]
  rfl
end

section
theorem sortsK (m : Nat) : AnyZ.SortsIn Tryz.prog Tryz.sorted108_ren Fence.wide m :=
  ⟨fun blk off cap ss W hH hblk hsz => callsIn_wide.2 (AnyM.slices_Sort_string Tryz.sort40 blk off cap ss W hH hblk hsz),
   fun p cap W => callsIn_wide.2 (AnyM.slices_Sort_string_none Tryz.sort40 p cap W)⟩
theorem maps_Keys_int (mb : Option Nat) : SpecH Tryz.prog 197 [.v (.map mb)] [] (fun y hp' => ∃ g, y = .v (.func (.func 285) #[] #[.pointer (some ⟨g, 0, none⟩)]) ∧ hp' = [.box g ⟨[.v (.map mb)], 100, 1⟩]) := fun w A us ha _ _ _ => by
 have hu : us = #[.map mb] := by
  have h0 := ha.2 0 (by simp)
  have h1 : us.size = 1 := ha.1
  have h2 := h0.eq_v
  apply Array.ext (by simp [h1])
  intro i hi1 hi2
  obtain rfl : i = 0 := by omega
  rw [Array.getD_eq_getD_getElem?, Array.getElem?_eq_getElem (by omega)] at h2
  simpa using h2
 subst hu
 refine ((callsIn_wide (n := 5)).1 (AnyZ.keys_in Tryz.keys197 Fence.wide 5 trivial rfl mb w)).mono ?_
 rintro e w' ⟨rfl, rfl⟩
 refine ⟨_, _, _, ⟨w.heap.size, rfl, rfl⟩, rfl, List.pairwise_singleton _ _, .v _, fun e he => ?_, fun b ⟨e, he, hb⟩ hl => ?_, ((Chg.refl NoB w).alloc _).any⟩
 ·simp at he; subst he
  exact ⟨_, heap_alloc_new w _, rfl, Nat.le_refl _, fun j hj => by simp at hj; subst hj; exact ⟨_, rfl, .v _⟩⟩
 ·simp at he; subst he
  simp [Ent.blk] at hb; omega
set_option maxHeartbeats 1000000 in
theorem slices_Sorted_int {α : Type} {E : α → AV} {g mg : Nat} {l : List (ByteArray × α)} (hnd : (l.map (·.1)).Nodup) (hs : ∀ p ∈ l, p.1.size ≤ maxLen) (hl : l.length ≤ 1000000) :
    SpecH Tryz.prog 108 [.v (.func (.func 285) #[] #[.pointer (some ⟨g, 0, none⟩)])] [.box g ⟨[.v (.map (some mg))], 100, 1⟩, mapE (fun k : ByteArray => Value.string k) mg E l]
      (fun y hp' => ∃ u, y = .v u ∧ hp' = [.row u l.length 1 (strsL (sKeys l)) 9, .box g ⟨[.v (.map (some mg))], 100, 1⟩, mapE (fun k : ByteArray => Value.string k) mg E l]) := fun w A us ha hap hA hE => by
  have hu : us = #[.func (.func 285) #[] #[.pointer (some ⟨g, 0, none⟩)]] := by
    have h0 := ha.2 0 (by simp)
    have h1 : us.size = 1 := ha.1
    have h2 := h0.eq_v
    apply Array.ext (by simp [h1])
    intro i hi1 hi2
    obtain rfl : i = 0 := by omega
    rw [Array.getD_eq_getD_getElem?, Array.getElem?_eq_getElem (by omega)] at h2
    simpa using h2
  subst hu
  have hB := hE _ (List.mem_cons_self ..)
  have hM := hE _ (List.mem_cons_of_mem _ (List.mem_cons_self ..))
  obtain ⟨c, b1, b2, b3, b4⟩ := hB
  have hc : c = #[.map (some mg)] := by
    obtain ⟨u, q1, q2⟩ := b4 0 (by simp)
    have := q2.eq_v
    simp at b2 this
    apply Array.ext (by simp [b2])
    intro i hi1 hi2
    obtain rfl : i = 0 := by omega
    rw [Array.getElem?_eq_getElem (by omega)] at q1
    cases q1
    simpa using this
  subst hc
  have hlen : l.length ≤ maxLen := by simp only [maxLen]; omega
  obtain ⟨D, d1, d2, d3⟩ := own_of_mapE (kt := 9) Tryz.underlying9 hM hnd hs hlen
  have hgl : g < w.heap.size := (Array.getElem?_eq_some_iff.1 b1).1
  have hcell : w.cell? ⟨g, 0, none⟩ = some (.map (some mg)) := by simp [World.cell?, b1]
  have hseq : SeqGives Fence.wide 2 Tryz.prog 285 #[.pointer (some ⟨g, 0, none⟩)] encStr (fun ss => ss.Perm (strKeys D)) (Maps.size D) w :=
    AnyZ.keys_gives (ρ := Tryz.keys197_ren) { Tryz.keys197 with } Fence.wide _ trivial rfl (by omega) g mg l.length D _ hgl hcell d1
  have hsz : Maps.size D ≤ maxLen := by rw [d2]; exact hlen
  have hby : Maps.size D * 16 ≤ 140737488355328 := by rw [d2]; omega
  refine ((callsIn_wide (n := 5)).1 (AnyZ.sorted_in Tryz.sorted108 Fence.wide 5 trivial trivial trivial trivial rfl (by omega) (sortsK _) (enters_of Tryz.func40 (by kernel_rfl) rfl) 285 #[.pointer (some ⟨g, 0, none⟩)] trivial (enters_of Tryz.func285 (by kernel_rfl) rfl) _ _ hsz hby _ hseq)).mono ?_
  rintro e w' ⟨v, ss, rfl, hS, hrow, hnil, hb⟩
  have hS' : ss.Perm (l.map fun p => p.1.data.toList) := hS.trans d3
  have hssl : ss.length = l.length := by simpa using hS'.length_eq
  have hkeys : (ss.mergeSort (fun x y => decide (x ≤ y))).map encStr = (sKeys l).map fun k => Value.string k := by
    have := mergeSort_of_perm hS'
    unfold leB at this
    rw [this, sKeys, List.map_map]
    rfl
  rw [hkeys] at hrow
  have hchg : Chg NoB w w' := (Chg.ofBelow hb).mono fun k h1 h2 => absurd h1 (Nat.not_lt.2 h2)
  obtain ⟨r1, r2⟩ := hrow
  have hZ : ∀ b, b < w.heap.size ∧ A b → Zh w A [.box g ⟨[.v (.map (some mg))], 100, 1⟩, mapE (fun k : ByteArray => Value.string k) mg E l] [.row v l.length 1 (strsL (sKeys l)) 9, .box g ⟨[.v (.map (some mg))], 100, 1⟩, mapE (fun k : ByteArray => Value.string k) mg E l] w' b := fun b ⟨hb1, hb2⟩ => by
    refine ⟨Nat.lt_of_lt_of_le hb1 hchg.size, fun ⟨e, he, heb⟩ => ?_, fun _ => .inl hb2⟩
    rcases List.mem_cons.1 he with rfl | he
    · rcases r2 with ⟨rfl, _⟩ | ⟨g2, cap, cur, rfl, hge, _⟩
      · simp [Ent.blk, Value.ownBlock] at heb
      · simp [Ent.blk, Value.ownBlock] at heb; omega
    · exact hA b ⟨e, he, heb⟩ hb2
  have hold : ∀ e ∈ [Ent.box g ⟨[.v (.map (some mg))], 100, 1⟩, mapE (fun k : ByteArray => Value.string k) mg E l], ∀ b, e.blk = some b → b < w.heap.size := fun e he b heb => by
    rcases List.mem_cons.1 he with rfl | he
    · simp [Ent.blk] at heb; omega
    · simp at he; subst he
      simp [Ent.blk] at heb
      obtain ⟨c2, k1, _⟩ := hM
      have := (Array.getElem?_eq_some_iff.1 k1).1
      omega
  refine ⟨_, _, _, ⟨v, rfl, rfl⟩, rfl, ?_, .v _, fun e he => ?_, fun b ⟨e, he, heb⟩ hl => ?_, hchg.any⟩
  · refine List.pairwise_cons.2 ⟨fun q hq b h1 h2 => ?_, hap⟩
    rcases r2 with ⟨rfl, _⟩ | ⟨g2, cap, cur, rfl, hge, _⟩
    · simp [Ent.blk, Value.ownBlock] at h1
    · simp [Ent.blk, Value.ownBlock] at h1
      have := hold q hq b h2
      omega
  · rcases List.mem_cons.1 he with rfl | he
    · refine ⟨by simp [strsL, sKeys_len], ?_⟩
      rcases r2 with ⟨rfl, hz⟩ | ⟨g2, cap, cur, rfl, hge, k1, k2, k3, k4, k5⟩
      · exact .inl ⟨rfl, by omega⟩
      · refine .inr ⟨g2, cap, cur, by rw [hssl], by omega, k3, k1, k4, fun j hj => ?_⟩
        have hj' : j < (sKeys l).length := by simpa [strsL] using hj
        have hcur : cur[j]? = some (.string ((sKeys l)[j])) := by
          have := congrArg (fun z => z[j]?) k5
          simp only [List.getElem?_map, List.getElem?_eq_getElem hj', Option.map_some] at this
          rw [List.getElem?_take] at this
          split at this
          · simpa using this
          · cases this
        exact ⟨_, hcur, by simp only [strsL, List.getElem_map]; exact .v _⟩
    · exact (hE e he).keep (fun b hb _ => ⟨hchg.block b hb.1 (fun h => h), hZ b hb⟩) fun b hb => hchg.block b (hold e he b hb) (fun h => h)
  · rcases List.mem_cons.1 he with rfl | he
    · rcases r2 with ⟨rfl, _⟩ | ⟨g2, cap, cur, rfl, hge, _⟩
      · simp [Ent.blk, Value.ownBlock] at heb
      · simp [Ent.blk, Value.ownBlock] at heb; omega
    · exact ⟨e, he, heb⟩
end
end Go.Proofs.YtaaokimiadfidaaGreatDoor
namespace Go.Proofs.YtaaokimiadfidaaGreatDoor
open Go.RowKit
set_option linter.unusedVariables false
set_option linter.unusedSimpArgs false

structure PlaceS where
 name : ByteArray
 part : ByteArray
 x : Int
 y : Int
 quarter : Int
instance : Inhabited PlaceS := ⟨⟨ByteArray.empty, ByteArray.empty, 0, 0, 0⟩⟩
instance : Sxc PlaceS where
 k := 5
 pos := by decide
 cell m j := match j with
  | 0 => avS m.name
  | 1 => avS m.part
  | 2 => avI m.x
  | 3 => avI m.y
  | 4 => avI m.quarter
  | _ => .any
structure ProdS where
 key : ByteArray
 wide : Int
 high : Int
 places : List PlaceS
instance : Inhabited ProdS := ⟨⟨ByteArray.empty, 0, 0, []⟩⟩
abbrev avProd (p : ProdS) : AV := .agg [avS p.key, avI p.wide, avI p.high, avL p.places]
abbrev boxProd (g : Nat) (p : ProdS) (ty : TypeId) : Ent := .box g ⟨[avS p.key, avI p.wide, avI p.high, avL p.places], ty, 4⟩
structure SmP (p : ProdS) : Prop where
 key : p.key.size ≤ 1000000
 len : p.places.length ≤ 1000000
 name : ∀ i, (p.places.getD i default).name.size ≤ 1000000
 part : ∀ i, (p.places.getD i default).part.size ≤ 1000000
def placeE (p : ProdS) (i : Nat) : Int :=
 if (keyF (p.places.getD i default).name && keyF (p.places.getD i default).part) = false then 5
 else if (decide (0 < i) && sLe (p.places.getD i default).name (p.places.getD (i - 1) default).name) = true then 7
 else if (outR (p.places.getD i default).x 0 p.wide || (outR (p.places.getD i default).y 0 p.high || outR (p.places.getD i default).quarter 0 3)) = true then 1
 else 0
def prodF (p : ProdS) : Int :=
 if keyF p.key = false then 5
 else if (outR p.wide 1 500000 || outR p.high 1 500000) = true then 1
 else if 1000 < p.places.length then 2
 else firstE (placeE p) p.places.length
section
variable {p : ProdS} {i : Nat}
theorem placeE_5a (h : keyF (p.places.getD i default).name = false) : placeE p i = 5 := by rw [placeE, if_pos (by rw [h]; rfl)]
theorem placeE_5b (h : keyF (p.places.getD i default).part = false) : placeE p i = 5 := by rw [placeE, if_pos (by rw [h, Bool.and_false])]
theorem placeE_7 (h1 : keyF (p.places.getD i default).name = true) (h2 : keyF (p.places.getD i default).part = true) (hi : 0 < i) (hs : sLe (p.places.getD i default).name (p.places.getD (i - 1) default).name = true) : placeE p i = 7 := by
 rw [placeE, if_neg (by rw [h1, h2]; simp), if_pos (by rw [hs, decide_eq_true hi]; rfl)]
theorem placeE_x (h1 : keyF (p.places.getD i default).name = true) (h2 : keyF (p.places.getD i default).part = true) (hs : i = 0 ∨ sLe (p.places.getD i default).name (p.places.getD (i - 1) default).name = false) :
  placeE p i = if (outR (p.places.getD i default).x 0 p.wide || (outR (p.places.getD i default).y 0 p.high || outR (p.places.getD i default).quarter 0 3)) = true then 1 else 0 := by
 rw [placeE, if_neg (by rw [h1, h2]; simp), if_neg]
 rcases hs with rfl | hs
 ·simp
 ·rw [hs]; simp
theorem placeE_1 (h1 : keyF (p.places.getD i default).name = true) (h2 : keyF (p.places.getD i default).part = true) (hs : i = 0 ∨ sLe (p.places.getD i default).name (p.places.getD (i - 1) default).name = false)
  (ho : (outR (p.places.getD i default).x 0 p.wide || (outR (p.places.getD i default).y 0 p.high || outR (p.places.getD i default).quarter 0 3)) = true) : placeE p i = 1 := by rw [placeE_x h1 h2 hs, if_pos ho]
theorem placeE_0 (h1 : keyF (p.places.getD i default).name = true) (h2 : keyF (p.places.getD i default).part = true) (hs : i = 0 ∨ sLe (p.places.getD i default).name (p.places.getD (i - 1) default).name = false)
  (ho : (outR (p.places.getD i default).x 0 p.wide || (outR (p.places.getD i default).y 0 p.high || outR (p.places.getD i default).quarter 0 3)) = false) : placeE p i = 0 := by rw [placeE_x h1 h2 hs, if_neg (by rw [ho]; simp)]
theorem prodF_5 (h : keyF p.key = false) : prodF p = 5 := by rw [prodF, if_pos h]
theorem prodF_1 (h : keyF p.key = true) (h1 : (outR p.wide 1 500000 || outR p.high 1 500000) = true) : prodF p = 1 := by rw [prodF, if_neg (by rw [h]; simp), if_pos h1]
theorem prodF_2 (h : keyF p.key = true) (h1 : (outR p.wide 1 500000 || outR p.high 1 500000) = false) (h2 : 1000 < p.places.length) : prodF p = 2 := by rw [prodF, if_neg (by rw [h]; simp), if_neg (by rw [h1]; simp), if_pos h2]
theorem prodF_x (h : keyF p.key = true) (h1 : (outR p.wide 1 500000 || outR p.high 1 500000) = false) (h2 : p.places.length ≤ 1000) : prodF p = firstE (placeE p) p.places.length := by rw [prodF, if_neg (by rw [h]; simp), if_neg (by rw [h1]; simp), if_neg (by omega)]
theorem prodF_at (h : keyF p.key = true) (h1 : (outR p.wide 1 500000 || outR p.high 1 500000) = false) (h2 : p.places.length ≤ 1000) {q : Nat} (hq : q < p.places.length) (hn : ∀ j, j < q → placeE p j = 0) {e : Int} (he : placeE p q = e) (h0 : e ≠ 0) : prodF p = e := by
 rw [prodF_x h h1 h2, firstE_found hn (by rw [he]; exact h0) hq, he]
theorem prodF_ok (h : keyF p.key = true) (h1 : (outR p.wide 1 500000 || outR p.high 1 500000) = false) (h2 : p.places.length ≤ 1000) (hn : ∀ j, j < p.places.length → placeE p j = 0) : prodF p = 0 := by
 rw [prodF_x h h1 h2, firstE_none hn]
end
structure ProdOk (p : ProdS) : Prop where
 key : keyF p.key = true
 wide : 1 ≤ p.wide ∧ p.wide ≤ 500000
 high : 1 ≤ p.high ∧ p.high ≤ 500000
 len : p.places.length ≤ 1000
 all : ∀ j, j < p.places.length → placeE p j = 0
theorem prodOk {p : ProdS} (h : prodF p = 0) : ProdOk p := by
 unfold prodF at h
 split at h
 ·cases h
 ·rename_i h1
  split at h
  ·cases h
  ·rename_i h2
   split at h
   ·cases h
   ·rename_i h3
    have h2' : (outR p.wide 1 500000 || outR p.high 1 500000) = false := by simpa using h2
    simp only [outR, Bool.or_eq_false_iff, decide_eq_false_iff_not] at h2'
    exact ⟨by simpa using h1, by omega, by omega, by omega, firstE_zero h⟩
def cntP (l : List PlaceS) : List (ByteArray × Int) := l.foldl (fun m x => mput m x.part (mgetD m x.part 0 + 1)) []
theorem cntP_snoc (l : List PlaceS) (x : PlaceS) : cntP (l ++ [x]) = mput (cntP l) x.part (mgetD (cntP l) x.part 0 + 1) := by simp [cntP]
theorem take_snocD {α : Type} {l : List α} {q : Nat} (h : q < l.length) (d : α) : l.take (q + 1) = l.take q ++ [l.getD q d] := by
 rw [List.take_add_one, List.getD_eq_getElem?_getD, List.getElem?_eq_getElem h]; rfl
theorem cntP_take {l : List PlaceS} {q : Nat} (h : q < l.length) : cntP (l.take (q + 1)) = mput (cntP (l.take q)) (l.getD q default).part (mgetD (cntP (l.take q)) (l.getD q default).part 0 + 1) := by
 rw [take_snocD h default, cntP_snoc]
theorem mget_mput {α : Type} : ∀ (l : List (ByteArray × α)) (k k' : ByteArray) (x : α), mget (mput l k x) k' = if k' = k then some x else mget l k'
 | [], k, k', x => by simp [mput, mget]
 | p :: r, k, k', x => by
  by_cases e : k = p.1
  ·subst e
   simp only [mput, if_true, mget]
   by_cases e2 : k' = p.1
   ·simp [e2]
   ·simp [e2]
  ·simp only [mput, if_neg e, mget]
   by_cases e2 : k' = p.1
   ·rw [if_pos e2, if_neg (fun h => e (h.symm.trans e2))]; simp [e2]
   ·rw [if_neg e2, mget_mput r k k' x]; simp [e2]
theorem mgetD_mput {α : Type} (l : List (ByteArray × α)) (k k' : ByteArray) (x z : α) : mgetD (mput l k x) k' z = if k' = k then x else mgetD l k' z := by
 unfold mgetD; rw [mget_mput]; split <;> rfl
theorem cntP_count : ∀ (l : List PlaceS) (m : List (ByteArray × Int)) (k : ByteArray), mgetD (l.foldl (fun m x => mput m x.part (mgetD m x.part 0 + 1)) m) k 0 = mgetD m k 0 + (l.filter fun x => decide (x.part = k)).length
 | [], m, k => by simp
 | x :: l, m, k => by
  rw [List.foldl_cons, cntP_count l, mgetD_mput]
  by_cases e : k = x.part
  ·subst e; simp; omega
  ·rw [if_neg e, List.filter_cons_of_neg (by simp; exact fun h => e h.symm)]
theorem cntP_get (l : List PlaceS) (k : ByteArray) : mgetD (cntP l) k 0 = (l.filter fun x => decide (x.part = k)).length := by
 rw [cntP, cntP_count]; simp [mgetD, mget]
theorem cntP_bd (l : List PlaceS) (k : ByteArray) : 0 ≤ mgetD (cntP l) k 0 ∧ mgetD (cntP l) k 0 ≤ l.length := by
 rw [cntP_get]
 have := List.length_filter_le (fun x : PlaceS => decide (x.part = k)) l
 omega
theorem cntP_nodup' : ∀ (l : List PlaceS) (m : List (ByteArray × Int)), (m.map (·.1)).Nodup → ((l.foldl (fun m x => mput m x.part (mgetD m x.part 0 + 1)) m).map (·.1)).Nodup
 | [], m, h => h
 | x :: l, m, h => cntP_nodup' l _ (mput_nodup h _ _)
theorem cntP_nodup (l : List PlaceS) : ((cntP l).map (·.1)).Nodup := cntP_nodup' l [] List.nodup_nil
theorem cntP_mem' : ∀ (l : List PlaceS) (m : List (ByteArray × Int)) (k : ByteArray), k ∈ (l.foldl (fun m x => mput m x.part (mgetD m x.part 0 + 1)) m).map (·.1) ↔ k ∈ m.map (·.1) ∨ ∃ x ∈ l, x.part = k
 | [], m, k => by simp
 | x :: l, m, k => by
  rw [List.foldl_cons, cntP_mem' l, mput_mem, or_assoc]
  simp only [List.mem_cons, exists_eq_or_imp]
  exact ⟨fun h => h.elim .inl fun h => h.elim (fun h => .inr (.inl h.symm)) fun h => .inr (.inr h), fun h => h.elim .inl fun h => h.elim (fun h => .inr (.inl h.symm)) fun h => .inr (.inr h)⟩
theorem cntP_mem {l : List PlaceS} {k : ByteArray} : k ∈ (cntP l).map (·.1) ↔ ∃ x ∈ l, x.part = k := by rw [cntP, cntP_mem']; simp
theorem cntP_len (l : List PlaceS) : (cntP l).length ≤ l.length := by
 unfold cntP
 have : ∀ (l : List PlaceS) (m : List (ByteArray × Int)), (l.foldl (fun m x => mput m x.part (mgetD m x.part 0 + 1)) m).length ≤ m.length + l.length := by
  intro l
  induction l with
  | nil => intro m; simp
  | cons x l ih =>
   intro m
   have := ih (mput m x.part (mgetD m x.part 0 + 1))
   have h2 := mput_len m x.part (mgetD m x.part 0 + 1)
   simp only [List.foldl_cons, List.length_cons]
   split at h2 <;> omega
 simpa using this l []
def needsL (p : ProdS) : List NeedS := (sKeys (cntP p.places)).map fun k => ⟨k, mgetD (cntP p.places) k 0⟩
def needsR (p : ProdS) : List NeedS := if prodF p = 0 then needsL p else []
theorem needsL_len (p : ProdS) : (needsL p).length = (cntP p.places).length := by simp [needsL, sKeys_len]
end Go.Proofs.YtaaokimiadfidaaGreatDoor
namespace Go.Proofs.YtaaokimiadfidaaGreatDoor
open Go.RowKit
set_option linter.unusedVariables false
set_option linter.unusedSimpArgs false
theorem mxl_ge : ∀ (xs : List Int) (m : Int), m ≤ maxF m xs ∧ ∀ x ∈ xs, x ≤ maxF m xs
 | [], m => ⟨Int.le_refl _, fun x h => by simp at h⟩
 | x :: r, m => by
  obtain ⟨h2, h3⟩ := mxl_ge r (max m x)
  rw [maxF]
  refine ⟨by omega, fun y hy => ?_⟩
  rcases List.mem_cons.1 hy with rfl | hy
  ·omega
  ·exact h3 y hy
theorem mxl_le {v : Int} : ∀ {xs : List Int} {m : Int}, m ≤ v → (∀ x ∈ xs, x ≤ v) → maxF m xs ≤ v
 | [], m, h, _ => h
 | x :: r, m, h, h2 => by
  rw [maxF]
  exact mxl_le (by have := h2 x (List.mem_cons_self ..); omega) fun y hy => h2 y (List.mem_cons_of_mem _ hy)
theorem maxL_iff {xs : List Int} (h : 0 < xs.length) (v : Int) : maxL xs ≤ v ↔ ∀ x ∈ xs, x ≤ v := by
 cases xs with
 | nil => simp at h
 | cons x r =>
  show maxF x r ≤ v ↔ _
  have h2 := mxl_ge r x
  constructor
  ·intro hv y hy
   rcases List.mem_cons.1 hy with rfl | hy
   ·omega
   ·have := h2.2 y hy; omega
  ·intro hv; exact mxl_le (hv x (List.mem_cons_self ..)) fun y hy => hv y (List.mem_cons_of_mem _ hy)
theorem tabI_mem {n : Nat} {f : Nat → Int} {x : Int} : x ∈ tabI n f ↔ ∃ k, k < n ∧ f k = x := by
 unfold tabI; rw [List.mem_map]
 exact ⟨fun ⟨k, h, e⟩ => ⟨k, List.mem_range.1 h, e⟩, fun ⟨k, h, e⟩ => ⟨k, List.mem_range.2 h, e⟩⟩
theorem maxL_tab {n : Nat} {f : Nat → Int} (hn : 0 < n) (h0 : ∀ k, 0 ≤ f k) : maxL (tabI n f) = mxK f n := by
 have hl : 0 < (tabI n f).length := by rw [tabI_len]; exact hn
 have h1 := (maxL_iff hl (maxL (tabI n f))).1 (Int.le_refl _)
 have hf : ∀ k, k < n → f k ≤ maxL (tabI n f) := fun k hk => h1 _ (tabI_mem.2 ⟨k, hk, rfl⟩)
 refine Int.le_antisymm ?_ (mxK_up (Int.le_trans (h0 0) (hf 0 hn)) hf)
 refine (maxL_iff hl _).2 fun x hx => ?_
 obtain ⟨k, hk, rfl⟩ := tabI_mem.1 hx
 exact (mxK_le (mxK_nn _ _)).1 (Int.le_refl _) k hk
section
variable {ms : List Mach} {ns : List NeedS}
theorem plB_in {pl : List Int} {k r : Nat} (h : r < pl.length) : plB pl k r = decide (pl.getD r 0 = (k : Int)) := by
 unfold plB; rw [decide_eq_true h, Bool.true_and]
theorem cyc_tim {pl : List Int} {k : Nat} : ∀ r, r ≤ pl.length → cyc ms ns pl k r = timB (ms.getD k default) ns (plB pl k) r
 | 0, _ => rfl
 | r + 1, h => by
  rw [cyc, timB, cyc_tim r (by omega), plB_in (by omega)]
  by_cases e : pl.getD r 0 = (k : Int)
  ·rw [if_pos e, if_pos (decide_eq_true e)]
  ·rw [if_neg e, if_neg (by rw [decide_eq_false e]; simp)]
theorem cnt_num {pl : List Int} {k : Nat} : ∀ r, r ≤ pl.length → cnt pl k r = (numB (plB pl k) r : Int)
 | 0, _ => rfl
 | r + 1, h => by
  rw [cnt, numB, cnt_num r (by omega), plB_in (by omega)]
  by_cases e : pl.getD r 0 = (k : Int)
  ·rw [if_pos e, if_pos (decide_eq_true e)]; rfl
  ·rw [if_neg e, if_neg (by rw [decide_eq_false e]; simp)]; rfl
theorem numB_mono (b : Nat → Bool) {r : Nat} : ∀ {t : Nat}, r ≤ t → numB b r ≤ numB b t
 | 0, h => by rw [show r = 0 by omega]; exact Nat.le_refl _
 | t + 1, h => by
  by_cases e : r = t + 1
  ·rw [e]; exact Nat.le_refl _
  ·have := numB_mono b (t := t) (r := r) (by omega)
   rw [numB]; omega
def InP (ms : List Mach) (pl : List Int) : Prop := ∀ i, i < pl.length → ∃ k : Nat, pl.getD i 0 = (k : Int) ∧ k < ms.length
structure VPlan (ms : List Mach) (ns : List NeedS) (pl : List Int) : Prop where
 len : pl.length = ns.length
 inp : InP ms pl
 ok : okP ms ns pl
theorem planF_valid (hm : machF ms = 0) {pl : List Int} : planF ms ns pl = 0 ↔ VPlan ms ns pl := by
 constructor
 ·intro h
  obtain ⟨hl, hE⟩ := planF_zero h
  refine ⟨hl, fun i hi => planE_ok (hE i hi), fun k hk => okB_iff.2 fun i hi => ?_⟩
  have hover : cnt pl k pl.length ≤ (ms.getD k default).feeders := by
   rw [planF, if_neg (by omega), firstE_none hE, if_neg (by decide)] at h
   have := firstE_zero h k hk
   unfold overE at this
   split at this
   ·cases this
   ·omega
  unfold okA
  rw [plB_in (by omega)]
  by_cases e : pl.getD i 0 = (k : Int)
  ·have hE' := hE i (by omega)
   unfold planE at hE'
   split at hE'
   ·cases hE'
   ·split at hE'
    ·cases hE'
    ·rename_i h1 h2
     rw [e, Int.toNat_natCast] at h2
     have h3 := numB_mono (plB pl k) (show i + 1 ≤ pl.length by omega)
     rw [cnt_num pl.length (Nat.le_refl _)] at hover
     have h4 : hasK (ms.getD k default) (ns.getD i default).key = true := by simpa using h2
     have h5 : decide (((numB (plB pl k) (i + 1) : Nat) : Int) ≤ (ms.getD k default).feeders) = true := decide_eq_true (by omega)
     rw [h4, h5]; cases decide (pl.getD i 0 = (k : Int)) <;> rfl
  ·rw [decide_eq_false e]; rfl
 ·rintro ⟨hl, hi, hok⟩
  refine planF_0 hl (fun j hj => ?_) fun k hk => ?_
  ·obtain ⟨k, e, hk⟩ := hi j hj
   refine planE_0 (by omega) ?_
   rw [e, Int.toNat_natCast]
   have := okB_iff.1 (hok k hk) j (by omega)
   unfold okA at this
   rw [plB_in hj, decide_eq_true e] at this
   simp [-List.getD_eq_getElem?_getD] at this
   exact this.1
  ·rw [cnt_num _ (Nat.le_refl _)]
   have hf := (machF_each hm hk).1.2.2.1
   have key : ∀ r, r ≤ ns.length → (numB (plB pl k) r : Int) ≤ (ms.getD k default).feeders := by
    intro r
    induction r with
    | zero => intro _; exact hf
    | succ r ih =>
     intro hr
     have := okB_iff.1 (hok k hk) r (by omega)
     unfold okA at this
     cases hb : plB pl k r with
     | true =>
      rw [hb] at this
      simp [-List.getD_eq_getElem?_getD] at this
      exact this.2
     | false => rw [numB, hb]; have := ih (by omega); simp [-List.getD_eq_getElem?_getD]; exact this
   exact key _ (by omega)
theorem MnOk.mk' (hm : machF ms = 0) (hn : needsF ns 1 1000 = 0) : MnOk ms ns := by
 refine ⟨fun k => ?_, fun k => ?_, fun i => ?_, needsF_len hn⟩
 ·by_cases hk : k < ms.length
  ·exact (machF_each hm hk).1.2.1
  ·rw [List.getD_eq_getElem?_getD, List.getElem?_eq_none (by omega)]; exact ⟨Int.le_refl _, by decide⟩
 ·by_cases hk : k < ms.length
  ·exact (machF_each hm hk).1.1
  ·rw [List.getD_eq_getElem?_getD, List.getElem?_eq_none (by omega)]; exact ⟨Int.le_refl _, by decide⟩
 ·by_cases hi : i < ns.length
  ·have := needsF_count hn hi; omega
  ·rw [List.getD_eq_getElem?_getD, List.getElem?_eq_none (by omega)]; exact ⟨Int.le_refl _, by decide⟩
theorem slowC_mx (hM : MnOk ms ns) (h0 : 0 < ms.length) {pl : List Int} (hl : pl.length = ns.length) : slowC ms ns pl = mxT ms ns pl := by
 unfold slowC cycL mxT
 rw [hl, maxL_tab h0]
 ·exact mxK_congr fun k _ => cyc_tim _ (by omega)
 ·intro k
  rw [cyc_tim _ (by omega)]
  exact (timB_in hM k _ _).1
theorem mxT_lt (hM : MnOk ms ns) (pl : List Int) : mxT ms ns pl < neverC := by
 have : mxT ms ns pl ≤ neverC - 1 := mxK_up (by decide) fun k _ => by have := timB_lt hM k (plB pl k) (Nat.le_refl ns.length); omega
 omega
theorem bst_least (hM : MnOk ms ns) {pl : List Int} (hv : VPlan ms ns pl) : bstV ms ns ns.length [] ≤ mxT ms ns pl := by
 have hlt := mxT_lt hM pl
 have h0 : 0 ≤ mxT ms ns pl := mxK_nn _ _
 refine (bstV_iff h0 hlt ns.length [] (by simp)).2 ⟨fun i => (pl.getD i 0).toNat, fun i _ hi => ?_, fun j hj => ?_⟩
 ·obtain ⟨k, e, hk⟩ := hv.inp i (by rw [hv.len]; exact hi)
  show (pl.getD i 0).toNat < _
  rw [e]; exact hk
 ·have e : cycB (ms.getD j default) ns (fun i => plB [] j i || ((decide (([] : List Int).length ≤ i) && decide (i < ns.length)) && decide ((pl.getD i 0).toNat = j))) = cycB (ms.getD j default) ns (plB pl j) := cycB_congr fun i hi => by
   obtain ⟨k, e, hk⟩ := hv.inp i (by rw [hv.len]; exact hi)
   have e0 : plB [] j i = false := by simp [plB]
   rw [e0, plB_in (pl := pl) (by rw [hv.len]; exact hi), e, Int.toNat_natCast]
   simp [hi]
   omega
  rw [e, ← mxC_ok hv.ok]
  exact (mxK_le (mxK_nn _ _)).1 (Int.le_refl _) j hj
theorem snoc_in {pl : List Int} (h : InP ms pl) {c : Nat} (hc : c < ms.length) : InP ms (pl ++ [(c : Int)]) := fun i hi => by
 by_cases e : i < pl.length
 ·rw [List.getD_eq_getElem?_getD, List.getElem?_append_left e, ← List.getD_eq_getElem?_getD]; exact h i e
 ·have : i = pl.length := by simp at hi; omega
  subst this
  exact ⟨c, by simp, hc⟩
theorem grd_spec (hM : MnOk ms ns) : ∀ (d : Nat) (pl : List Int), pl.length + d = ns.length → bstV ms ns d pl < neverC → InP ms pl → (grd ms ns d pl).length = ns.length ∧ InP ms (grd ms ns d pl) ∧ mxC ms ns (grd ms ns d pl) = bstV ms ns d pl
 | 0, pl, hl, _, hi => ⟨by rw [grd]; omega, hi, rfl⟩
 | d + 1, pl, hl, hv, hi => by
  rw [bstV] at hv
  obtain ⟨k, hk, e⟩ := mnK_at hv
  obtain ⟨s1, s2, s3⟩ := fsK_spec (fun k : Nat => bstV ms ns d (pl ++ [(k : Int)])) (bstV ms ns (d + 1) pl) ms.length
  have hlt : fsK (fun k : Nat => bstV ms ns d (pl ++ [(k : Int)])) (bstV ms ns (d + 1) pl) ms.length < ms.length := Classical.byContradiction fun hn => s2 k (by omega) e
  have e2 := s3 hlt
  have ih := grd_spec hM d (pl ++ [((fsK (fun k : Nat => bstV ms ns d (pl ++ [(k : Int)])) (bstV ms ns (d + 1) pl) ms.length : Nat) : Int)]) (by simp; omega) (by rw [e2]; exact hv) (snoc_in hi hlt)
  rw [grd]
  exact ⟨ih.1, ih.2.1, ih.2.2.trans e2⟩
theorem grd_ok (hM : MnOk ms ns) (h : bstV ms ns ns.length [] < neverC) : VPlan ms ns (grd ms ns ns.length []) ∧ mxT ms ns (grd ms ns ns.length []) = bstV ms ns ns.length [] := by
 obtain ⟨h1, h2, h3⟩ := grd_spec hM ns.length [] (by simp) h (fun i hi => absurd hi (Nat.not_lt_zero i))
 have hok : okP ms ns (grd ms ns ns.length []) := fun k hk => by
  have hc : cycB (ms.getD k default) ns (plB (grd ms ns ns.length []) k) ≤ mxC ms ns (grd ms ns ns.length []) := (mxK_le (mxK_nn _ _)).1 (Int.le_refl _) k hk
  unfold cycB at hc
  split at hc
  ·assumption
  ·omega
 exact ⟨⟨h1, h2, hok⟩, by rw [← mxC_ok hok]; exact h3⟩
theorem bst_valid (hM : MnOk ms ns) {pl : List Int} (hv : VPlan ms ns pl) : bstV ms ns ns.length [] < neverC := by
 have := bst_least hM hv
 have := mxT_lt hM pl
 omega
def smN (f : Nat → Int) : Nat → Int
 | 0 => 0
 | k + 1 => smN f k + f k
theorem smN_congr {f g : Nat → Int} : ∀ {K}, (∀ k, k < K → f k = g k) → smN f K = smN g K
 | 0, _ => rfl
 | K + 1, h => by rw [smN, smN, smN_congr fun k hk => h k (by omega), h K (by omega)]
theorem smN_one {f : Nat → Int} {c : Nat} {a : Int} : ∀ K, smN (fun k => f k + if k = c then a else 0) K = smN f K + if c < K then a else 0
 | 0 => by simp [smN]
 | K + 1 => by
  rw [smN, smN, smN_one K]
  by_cases e : K = c
  ·subst e; rw [if_pos rfl, if_neg (by omega), if_pos (by omega)]; omega
  ·rw [if_neg e]
   by_cases h : c < K
   ·rw [if_pos h, if_pos (by omega)]; omega
   ·rw [if_neg h, if_neg (by omega)]; omega
theorem smN_le {f : Nat → Int} {x : Int} : ∀ K, (∀ k, k < K → f k ≤ x) → smN f K ≤ K * x
 | 0, _ => by simp [smN]
 | K + 1, h => by
  have := smN_le K fun k hk => h k (by omega)
  have := h K (by omega)
  rw [smN, Int.natCast_add, Int.add_mul]; omega
def wrk (ms : List Mach) (ns : List NeedS) (pl : List Int) : Nat → Int
 | 0 => 0
 | r + 1 => wrk ms ns pl r + (ms.getD (pl.getD r 0).toNat default).each * (ns.getD r default).count
theorem cyc_sum {pl : List Int} (h : InP ms pl) : ∀ r, r ≤ pl.length → smN (fun k => cyc ms ns pl k r) ms.length = smN (fun k => (ms.getD k default).fixed) ms.length + wrk ms ns pl r
 | 0, _ => by simp only [wrk, cyc]; omega
 | r + 1, hr => by
  obtain ⟨c, e, hc⟩ := h r (by omega)
  have e2 : smN (fun k => cyc ms ns pl k (r + 1)) ms.length = smN (fun k => cyc ms ns pl k r + if k = c then (ms.getD c default).each * (ns.getD r default).count else 0) ms.length := smN_congr fun k _ => by
   rw [cyc, e]
   by_cases h2 : k = c
   ·subst h2; rw [if_pos rfl, if_pos rfl]
   ·rw [if_neg (by omega), if_neg h2]; omega
  rw [e2, smN_one, if_pos hc, cyc_sum h r (by omega), wrk, e, Int.toNat_natCast]; omega
def lstE (ms : List Mach) (key : ByteArray) : Nat → Int
 | 0 => -1
 | k + 1 => if hasK (ms.getD k default) key = true ∧ (lstE ms key k < 0 ∨ (ms.getD k default).each < lstE ms key k) then (ms.getD k default).each else lstE ms key k
theorem lstE_le (hM : MnOk ms ns) {key : ByteArray} : ∀ {K k : Nat}, k < K → hasK (ms.getD k default) key = true → 0 ≤ lstE ms key K ∧ lstE ms key K ≤ (ms.getD k default).each
 | K + 1, k, h, hh => by
  rw [lstE]
  have h0 := hM.each K
  by_cases e : k = K
  ·subst e
   split
   ·exact ⟨h0.1, Int.le_refl _⟩
   ·rename_i h2
    rcases Classical.em (lstE ms key k < 0 ∨ (ms.getD k default).each < lstE ms key k) with h3 | h3
    ·exact absurd ⟨hh, h3⟩ h2
    ·omega
  ·have := lstE_le hM (show k < K by omega) hh
   split
   ·rename_i h3; have := h3.2; omega
   ·exact this
def bndS (ms : List Mach) (ns : List NeedS) : Nat → Int
 | 0 => smN (fun k => (ms.getD k default).fixed) ms.length
 | r + 1 => bndS ms ns r + max (lstE ms (ns.getD r default).key ms.length) 0 * (ns.getD r default).count
def bndF (ms : List Mach) (ns : List NeedS) : Int := max (mxK (fun k => (ms.getD k default).fixed) ms.length) (Int.tdiv (bndS ms ns ns.length + ms.length - 1) ms.length)
theorem lstE_each (hM : MnOk ms ns) {key : ByteArray} : ∀ K, -1 ≤ lstE ms key K ∧ lstE ms key K ≤ 10000000
 | 0 => ⟨Int.le_refl _, by simp [lstE]⟩
 | K + 1 => by
  have := lstE_each hM (key := key) K
  have := hM.each K
  rw [lstE]; split <;> omega
theorem smN_fix (hM : MnOk ms ns) : ∀ K, 0 ≤ smN (fun k => (ms.getD k default).fixed) K ∧ smN (fun k => (ms.getD k default).fixed) K ≤ 10000000 * K
 | 0 => by simp [smN]
 | K + 1 => by have := smN_fix hM K; have := hM.fix K; rw [smN]; omega
theorem bndS_in (hM : MnOk ms ns) : ∀ r, 0 ≤ bndS ms ns r ∧ bndS ms ns r ≤ 10000000 * ms.length + 10000000000 * r
 | 0 => by have := smN_fix hM ms.length; rw [bndS]; omega
 | r + 1 => by
  have ih := bndS_in hM r
  have h1 := lstE_each hM (key := (ns.getD r default).key) ms.length
  have h2 := mul_in2 (a := max (lstE ms (ns.getD r default).key ms.length) 0) (by omega) (hM.cnt r)
  rw [bndS]; omega
theorem mxK_fix (hM : MnOk ms ns) (K : Nat) : 0 ≤ mxK (fun k => (ms.getD k default).fixed) K ∧ mxK (fun k => (ms.getD k default).fixed) K ≤ 10000000 := ⟨mxK_nn _ _, mxK_up (by decide) fun k _ => (hM.fix k).2⟩
theorem bnd_wrk (hM : MnOk ms ns) {pl : List Int} (hv : VPlan ms ns pl) : ∀ r, r ≤ ns.length → bndS ms ns r ≤ smN (fun k => (ms.getD k default).fixed) ms.length + wrk ms ns pl r
 | 0, _ => by rw [bndS, wrk]; omega
 | r + 1, hr => by
  have ih := bnd_wrk hM hv r (by omega)
  obtain ⟨c, e, hc⟩ := hv.inp r (by rw [hv.len]; omega)
  have hh : hasK (ms.getD c default) (ns.getD r default).key = true := by
   have := okB_iff.1 (hv.ok c hc) r (by omega)
   unfold okA at this
   rw [plB_in (by rw [hv.len]; omega), decide_eq_true e] at this
   simp [-List.getD_eq_getElem?_getD] at this
   exact this.1
  have h1 := (lstE_le hM hc hh).2
  have h2 := hM.cnt r
  have h3 := hM.each c
  have h4 : max (lstE ms (ns.getD r default).key ms.length) 0 * (ns.getD r default).count ≤ (ms.getD c default).each * (ns.getD r default).count := Int.mul_le_mul_of_nonneg_right (by omega) h2.1
  rw [bndS, wrk, e, Int.toNat_natCast]; omega
theorem fix_le_cyc (hM : MnOk ms ns) (k : Nat) (b : Nat → Bool) : ∀ r, (ms.getD k default).fixed ≤ timB (ms.getD k default) ns b r
 | 0 => Int.le_refl _
 | r + 1 => by
  have := fix_le_cyc hM k b r
  have := mul_in2 (hM.each k) (hM.cnt r)
  rw [timB]; split <;> omega
theorem bnd_le (hM : MnOk ms ns) (h0 : 0 < ms.length) {pl : List Int} (hv : VPlan ms ns pl) : bndF ms ns ≤ mxT ms ns pl := by
 have hx := (mxK_le (F := fun k => timB (ms.getD k default) ns (plB pl k) ns.length) (mxK_nn _ ms.length) (K := ms.length)).1 (Int.le_refl _)
 have h1 : mxK (fun k => (ms.getD k default).fixed) ms.length ≤ mxT ms ns pl := mxK_up (mxK_nn _ _) fun k hk => Int.le_trans (fix_le_cyc hM k _ _) (hx k hk)
 have h2 := bnd_wrk hM hv ns.length (Nat.le_refl _)
 have h3 := cyc_sum (ns := ns) hv.inp ns.length (by rw [hv.len]; exact Nat.le_refl _)
 have h4 : smN (fun k => cyc ms ns pl k ns.length) ms.length ≤ ms.length * mxT ms ns pl := smN_le _ fun k hk => by
  rw [cyc_tim _ (by rw [hv.len]; exact Nat.le_refl _)]; exact hx k hk
 have h5 := bndS_in hM ns.length
 unfold bndF
 rw [Int.tdiv_eq_ediv_of_nonneg (by omega)]
 have h6 : (bndS ms ns ns.length + ms.length - 1) / (ms.length : Int) < mxT ms ns pl + 1 := Int.ediv_lt_of_lt_mul (by omega) (by
  rw [Int.add_mul, Int.one_mul, Int.mul_comm (mxT ms ns pl)]; omega)
 omega
theorem cnt_set {g : List Int} {i k j : Nat} (hi : i < g.length) (h : g.getD i 0 = -1) : ∀ r, cnt (g.set i (k : Int)) j r = cnt g j r + if i < r ∧ k = j then 1 else 0
 | 0 => by simp [cnt]
 | r + 1 => by
  rw [cnt, cnt, cnt_set hi h r]
  by_cases e : r = i
  ·subst e
   have e1 : (g.set r (k : Int)).getD r 0 = (k : Int) := by simp [hi]
   rw [e1, h, if_neg (by omega : ¬ ((-1 : Int) = (j : Int))), if_neg (show ¬ (r < r ∧ k = j) by omega)]
   by_cases e2 : k = j
   ·subst e2; rw [if_pos rfl, if_pos ⟨by omega, rfl⟩]
   ·rw [if_neg (by omega), if_neg (by omega)]
  ·have e1 : (g.set i (k : Int)).getD r 0 = g.getD r 0 := by
    rw [List.getD_eq_getElem?_getD, List.getElem?_set_ne (Ne.symm e), ← List.getD_eq_getElem?_getD]
   rw [e1]
   simp only [show (i < r + 1 ∧ k = j) ↔ (i < r ∧ k = j) by omega]
   generalize (if i < r ∧ k = j then (1 : Int) else 0) = X
   omega
structure FstI (ms : List Mach) (ns : List NeedS) (l : List Int) (q : Nat) (g : List Int) : Prop where
 len : g.length = ns.length
 el : ∀ i, i < ns.length → (g.getD i 0 = -1 ∧ (i : Int) ∉ l.take q) ∨ ((i : Int) ∈ l.take q ∧ ∃ k : Nat, g.getD i 0 = (k : Int) ∧ k < ms.length ∧ hasK (ms.getD k default) (ns.getD i default).key = true)
 feed : ∀ k, k < ms.length → cnt g k g.length ≤ (ms.getD k default).feeders
theorem cnt_none (n : Nat) (k : Nat) : ∀ r, r ≤ n → cnt (List.replicate n (-1)) k r = 0
 | 0, _ => rfl
 | r + 1, h => by
  rw [cnt, cnt_none n k r (by omega), show (List.replicate n (-1 : Int)).getD r 0 = -1 by simp [show r < n by omega], if_neg (by omega)]; rfl
theorem FstI.zero (hm : machF ms = 0) (l : List Int) : FstI ms ns l 0 (List.replicate ns.length (-1)) :=
 ⟨by simp, fun i hi => .inl ⟨by simp [hi], by simp⟩, fun k hk => by rw [List.length_replicate, cnt_none _ _ _ (Nat.le_refl _)]; exact (machF_each hm hk).1.2.2.1⟩
theorem FstI.none {l g : List Int} {q i : Nat} (h : FstI ms ns l q g) (hd : l.Nodup) (hq : q < l.length) (hi : l.getD q 0 = (i : Int)) (hin : i < ns.length) : g.getD i 0 = -1 := by
 rcases h.el i hin with e | ⟨e, _⟩
 ·exact e.1
 ·exfalso
  obtain ⟨j, hj, e2⟩ := List.getElem_of_mem e
  rw [List.length_take] at hj
  rw [List.getElem_take] at e2
  rw [List.getD_eq_getElem?_getD, List.getElem?_eq_getElem hq] at hi
  have : j = q := (List.getElem_inj hd).1 (e2.trans (by simpa using hi.symm))
  omega
theorem FstI.step {l g : List Int} {q i k : Nat} (h : FstI ms ns l q g) (hd : l.Nodup) (hq : q < l.length) (hi : l.getD q 0 = (i : Int)) (hin : i < ns.length) (hk : k < ms.length) (h1 : hasK (ms.getD k default) (ns.getD i default).key = true) (h2 : cnt g k g.length < (ms.getD k default).feeders) : FstI ms ns l (q + 1) (g.set i (k : Int)) := by
 have hn := h.none hd hq hi hin
 have hil : i < g.length := by rw [h.len]; exact hin
 have htk : l.take (q + 1) = l.take q ++ [(i : Int)] := by rw [take_snocD hq 0, hi]
 refine ⟨by rw [List.length_set]; exact h.len, fun j hj => ?_, fun j hj => ?_⟩
 ·rw [htk]
  by_cases e : j = i
  ·subst e
   exact .inr ⟨by simp, k, by simp [hil], hk, h1⟩
  ·have e1 : (g.set i (k : Int)).getD j 0 = g.getD j 0 := by
    rw [List.getD_eq_getElem?_getD, List.getElem?_set_ne (Ne.symm e), ← List.getD_eq_getElem?_getD]
   rw [e1]
   rcases h.el j hj with h3 | ⟨h3, h4⟩
   ·exact .inl ⟨h3.1, fun hm => (List.mem_append.1 hm).elim h3.2 fun hm => by simp at hm; omega⟩
   ·exact .inr ⟨List.mem_append.2 (.inl h3), h4⟩
 ·rw [List.length_set, cnt_set hil hn]
  have := h.feed j hj
  by_cases e : k = j
  ·subst e; rw [if_pos ⟨hil, rfl⟩]; omega
  ·rw [if_neg (by omega)]; omega
end
end Go.Proofs.YtaaokimiadfidaaGreatDoor
namespace Go.Proofs.YtaaokimiadfidaaGreatDoor
open Go.RowKit
set_option linter.unusedVariables false
set_option linter.unusedSimpArgs false
structure SetI (r : Nat) (F : Nat → Int) (l : List Int) : Prop where
 len : l.length = r + 1
 at_ : ∀ s, SubN s r → l.getD s 0 = F s
structure SetG (r cur : Nat) (F : Nat → Int) (l : List Int) : Prop where
 len : l.length = r + 1
 sub : SubN cur r
 at_ : ∀ s, SubN s r → cur < s → l.getD s 0 = F s
section
variable {r cur : Nat} {F : Nat → Int} {l : List Int}
theorem SetG.lt (h : SetG r cur F l) : cur < l.length := by have := h.sub.le; have := h.len; omega
theorem SetG.start (h : l.length = r + 1) : SetG r r F l := ⟨h, SubN.refl r, fun s hs hlt => by have := hs.le; omega⟩
theorem SetG.next {x : Int} (h : SetG r cur F l) (h0 : cur ≠ 0) (hx : x = F cur) : SetG r ((cur - 1) &&& r) F (l.set cur x) :=
  ⟨by rw [List.length_set]; exact h.len, SubN.and_ _ _, fun s hs hlt => by
    rw [getDs h.lt]
    by_cases e : s = cur
    · rw [if_pos e, e, hx]
    · rw [if_neg e]
      refine h.at_ s hs (Classical.byContradiction fun hn => ?_)
      have := sub_next cur s r hs h.sub (by omega)
      omega⟩
theorem SetG.last {x : Int} (h : SetG r cur F l) (h0 : cur = 0) (hx : x = F cur) : SetI r F (l.set cur x) :=
 ⟨by rw [List.length_set]; exact h.len, fun s hs => by
  rw [getDs h.lt]
  by_cases e : s = cur
  ·rw [if_pos e, e, hx]
  ·rw [if_neg e]; exact h.at_ s hs (by omega)⟩
end
structure MinI (F : Nat → Int) (set cur : Nat) (v : Int) : Prop where
 sub : SubN cur set
 lo : 0 ≤ v
 hi : v ≤ neverC
 iff : ∀ x, 0 ≤ x → x < neverC → (v ≤ x ↔ ∃ t, SubN t set ∧ cur < t ∧ F t ≤ x)
section
variable {F : Nat → Int} {set cur : Nat} {v : Int}
theorem MinI.start (F : Nat → Int) (set : Nat) : MinI F set set neverC := ⟨SubN.refl _, by decide, Int.le_refl _, fun x h0 hx => ⟨fun h => by omega, fun ⟨t, h1, h2, _⟩ => by have := h1.le; omega⟩⟩
theorem MinI.next (h : MinI F set cur v) (hF : 0 ≤ F cur) (h0 : cur ≠ 0) : MinI F set ((cur - 1) &&& set) (min v (F cur)) :=
 ⟨SubN.and_ _ _, by have := h.lo; omega, by have := h.hi; omega, fun x hx0 hx => by
  have h1 := h.iff x hx0 hx
  constructor
  ·intro hm
   by_cases e : F cur ≤ x
   ·exact ⟨cur, h.sub, sub_dec h0, e⟩
   ·obtain ⟨t, t1, t2, t3⟩ := h1.1 (by omega)
    exact ⟨t, t1, by have := sub_dec (r := set) h0; omega, t3⟩
  ·rintro ⟨t, t1, t2, t3⟩
   by_cases e : t = cur
   ·subst e; omega
   ·by_cases e2 : cur < t
    ·have := h1.2 ⟨t, t1, e2, t3⟩; omega
    ·have := sub_next cur t set t1 h.sub (by omega); omega⟩
theorem MinI.last (h : MinI F set cur v) (hF : ∀ t, 0 ≤ F t) (h0 : cur = 0) : min v (F cur) = mnS F set := by
 have hl := h.lo
 have hh := h.hi
 have hc := hF cur
 refine eq_of_le (by omega) (mnS_never _ _) (by omega) (mnS_nn hF _) fun x hx0 hx => ?_
 rw [mnS_iff hx]
 have h1 := h.iff x hx0 hx
 constructor
 ·intro hm
  by_cases e : F cur ≤ x
  ·exact ⟨cur, h.sub, e⟩
  ·obtain ⟨t, t1, t2, t3⟩ := h1.1 (by omega)
   exact ⟨t, t1, t3⟩
 ·rintro ⟨t, t1, t3⟩
  by_cases e : t = cur
  ·subst e; omega
  ·have := h1.2 ⟨t, t1, by omega, t3⟩; omega
end
section
variable {ms : List Mach} {ns : List NeedS} {fx : Nat → Nat}
def mxBA (ms : List Mach) (ns : List NeedS) (fx : Nat → Nat) (k set t : Nat) : Int := max (belS ms ns fx k (ndiff set t)) (alnS ms ns fx k t)
theorem alnS_in (h : MnOk ms ns) (k t : Nat) : 0 ≤ alnS ms ns fx k t ∧ alnS ms ns fx k t ≤ neverC := cycB_in h k _
theorem mxBA_nn (h : MnOk ms ns) (k set t : Nat) : 0 ≤ mxBA ms ns fx k set t := by have := (alnS_in (fx := fx) h k t).1; unfold mxBA; omega
theorem SubN.of_sub {t set r : Nat} (h : SubN set r) : SubN (ndiff set t) r := (SubN.diff set t).trans h
theorem okB_no {m : Mach} {b : Nat → Bool} {i : Nat} (hi : i < ns.length) (h : okA m ns b i = false) : cycB m ns b = neverC := by
 unfold cycB
 rw [if_neg]
 intro h2
 rw [okB_iff.1 h2 i hi] at h; cases h
theorem okB_all {m : Mach} {b : Nat → Bool} (h : ∀ i, i < ns.length → okA m ns b i = true) : cycB m ns b = timB m ns b ns.length := by
 unfold cycB; rw [if_pos (okB_iff.2 h)]
end
end Go.Proofs.YtaaokimiadfidaaGreatDoor
namespace Go.Proofs.YtaaokimiadfidaaGreatDoor
open Go.RowKit
set_option linter.unusedVariables false
set_option linter.unusedSimpArgs false
section
variable {ms : List Mach} {ns : List NeedS}
def balE (ms : List Mach) (ns : List NeedS) : Int := if faultF ms ns ≠ 0 then faultF ms ns else if 12 < ns.length then 2 else 0
def balOk (ms : List Mach) (ns : List NeedS) : Bool := decide (balE ms ns = 0) && decide (bstV ms ns ns.length [] < neverC)
def balL (ms : List Mach) (ns : List NeedS) : List Int := if balOk ms ns = true then grd ms ns ns.length [] else []
def balV (ms : List Mach) (ns : List NeedS) : Int := if balOk ms ns = true then bstV ms ns ns.length [] else 0
theorem grd_next {pl : List Int} {d k : Nat} (hk : k < ms.length) (h : bstV ms ns d (pl ++ [(k : Int)]) = bstV ms ns (d + 1) pl) (hn : ∀ j, j < k → bstV ms ns d (pl ++ [(j : Int)]) ≠ bstV ms ns (d + 1) pl) : grd ms ns (d + 1) pl = grd ms ns d (pl ++ [(k : Int)]) := by
 rw [grd, fsK_eq hk h hn]
theorem grd_some {pl : List Int} {d : Nat} (h : bstV ms ns (d + 1) pl < neverC) (hn : ∀ j, j < ms.length → bstV ms ns d (pl ++ [(j : Int)]) ≠ bstV ms ns (d + 1) pl) : False := by
 obtain ⟨k, hk, e⟩ := mnK_at (F := fun k => bstV ms ns d (pl ++ [(k : Int)])) (K := ms.length) h
 exact hn k hk e
end
end Go.Proofs.YtaaokimiadfidaaGreatDoor
namespace Go.Proofs.YtaaokimiadfidaaGreatDoor
open Go.RowKit
set_option linter.unusedVariables false
set_option linter.unusedSimpArgs false
theorem ofInt64 (a : Nat) (ha : a < 9223372036854775808) : (BitVec.ofInt 64 (a : Int)).toNat = a := by
 rw [BitVec.ofInt_natCast, BitVec.toNat_ofNat]; exact Nat.mod_eq_of_lt (by omega)
theorem wrap64 (a : Nat) (ha : a < 9223372036854775808) : IntKind.i64.wrap (a : Int) = (a : Int) := IntWalk.i64_in _ (by omega)
theorem i64_and (a b : Nat) (ha : a < 9223372036854775808) (hb : b < 9223372036854775808) : Op.intBits .and .i64 (a : Int) (b : Int) = pure (.int .i64 ((a &&& b : Nat) : Int)) := by
 have hx : a &&& b < 2 ^ 63 := Nat.and_lt_two_pow _ (by omega)
 show pure (Value.int .i64 (IntKind.i64.wrap ((BitVec.ofInt 64 (a : Int) &&& BitVec.ofInt 64 (b : Int)).toNat : Int))) = _
 rw [BitVec.toNat_and, ofInt64 a ha, ofInt64 b hb, wrap64 _ (by omega)]
theorem i64_or (a b : Nat) (ha : a < 9223372036854775808) (hb : b < 9223372036854775808) : Op.intBits .or .i64 (a : Int) (b : Int) = pure (.int .i64 ((a ||| b : Nat) : Int)) := by
 have hx : a ||| b < 2 ^ 63 := Nat.or_lt_two_pow (by omega) (by omega)
 show pure (Value.int .i64 (IntKind.i64.wrap ((BitVec.ofInt 64 (a : Int) ||| BitVec.ofInt 64 (b : Int)).toNat : Int))) = _
 rw [BitVec.toNat_or, ofInt64 a ha, ofInt64 b hb, wrap64 _ (by omega)]
theorem i64_andNot (a b : Nat) (ha : a < 9223372036854775808) (hb : b < 9223372036854775808) : Op.intBits .andNot .i64 (a : Int) (b : Int) = pure (.int .i64 ((ndiff a b : Nat) : Int)) := by
 have hx : ndiff a b < 2 ^ 63 := Nat.xor_lt_two_pow (by omega) (Nat.lt_of_le_of_lt Nat.and_le_left (by omega))
 have e : (BitVec.ofInt 64 (a : Int) &&& ~~~BitVec.ofInt 64 (b : Int)).toNat = ndiff a b := by
  refine Nat.eq_of_testBit_eq fun i => ?_
  rw [ndiff_bit, BitVec.toNat_and, Nat.testBit_and, ofInt64 a ha, BitVec.testBit_toNat, BitVec.getLsbD_not, ← BitVec.testBit_toNat, ofInt64 b hb]
  cases h : a.testBit i with
  | false => rfl
  | true =>
   have hi : i < 64 := by
    refine Classical.byContradiction fun hn => ?_
    have := Nat.testBit_lt_two_pow (x := a) (i := i) (Nat.lt_of_lt_of_le (show a < 2 ^ 63 by omega) (Nat.pow_le_pow_right (by decide) (by omega)))
    rw [this] at h; cases h
   simp [hi]
 show pure (Value.int .i64 (IntKind.i64.wrap ((BitVec.ofInt 64 (a : Int) &&& ~~~BitVec.ofInt 64 (b : Int)).toNat : Int))) = _
 rw [e, wrap64 _ (by omega)]
section
variable {P : Program} {B : Bs} {W : Nat → Prop} {s : St'} {o : Oper} {t u : TypeId} {x y : Operand} {a b : Nat}
theorem OpV.band (ho : o.op = .binOp .and t x y u) (hx : evO s x = some (.v (.int .i64 (a : Int)))) (hy : evO s y = some (.v (.int .i64 (b : Int)))) (ha : a < 9223372036854775808) (hb : b < 9223372036854775808) : OpV P B W s o (avI ((a &&& b : Nat) : Int)) :=
 OpV.conc (fun a' w hr w' hcw => by simp [execOp, ho, hr.evv hx, hr.evv hy, eqGuard, binOp, i64_and a b ha hb])
theorem OpV.bor (ho : o.op = .binOp .or t x y u) (hx : evO s x = some (.v (.int .i64 (a : Int)))) (hy : evO s y = some (.v (.int .i64 (b : Int)))) (ha : a < 9223372036854775808) (hb : b < 9223372036854775808) : OpV P B W s o (avI ((a ||| b : Nat) : Int)) :=
 OpV.conc (fun a' w hr w' hcw => by simp [execOp, ho, hr.evv hx, hr.evv hy, eqGuard, binOp, i64_or a b ha hb])
theorem OpV.bdiff (ho : o.op = .binOp .andNot t x y u) (hx : evO s x = some (.v (.int .i64 (a : Int)))) (hy : evO s y = some (.v (.int .i64 (b : Int)))) (ha : a < 9223372036854775808) (hb : b < 9223372036854775808) : OpV P B W s o (avI ((ndiff a b : Nat) : Int)) :=
 OpV.conc (fun a' w hr w' hcw => by simp [execOp, ho, hr.evv hx, hr.evv hy, eqGuard, binOp, i64_andNot a b ha hb])
theorem OpV.bshl1 {k : IntKind} (ho : o.op = .binOp .shl t x y u) (hx : evO s x = some (.v (.int .i64 1))) (hy : evO s y = some (.v (.int k (b : Int)))) (hb : b ≤ 62) : OpV P B W s o (avI ((2 ^ b : Nat) : Int)) :=
 OpV.conc (fun a' w hr w' hcw => by
  have h1 : (2 : Nat) ^ b ≤ 2 ^ 62 := Nat.pow_le_pow_right (by decide) hb
  have e : IntKind.i64.wrap (1 * 2 ^ (min ((b : Int).toNat) IntKind.i64.bits)) = ((2 ^ b : Nat) : Int) := by
   rw [show min ((b : Int).toNat) IntKind.i64.bits = b from Nat.min_eq_left (by show b ≤ 64; omega), Int.one_mul, show ((2 : Int) ^ b) = ((2 ^ b : Nat) : Int) by simp]
   exact wrap64 _ (by omega)
  have h0 : ¬ ((b : Int) < 0) := by omega
  simp only [execOp, ho, hr.evv hx, hr.evv hy, eqGuard, binOp, Op.shift, if_neg h0, e]
  simp)
theorem OpV.bshr {k : IntKind} (ho : o.op = .binOp .shr t x y u) (hx : evO s x = some (.v (.int .i64 (a : Int)))) (hy : evO s y = some (.v (.int k (b : Int)))) (hb : b ≤ 62) : OpV P B W s o (avI ((a / 2 ^ b : Nat) : Int)) :=
 OpV.conc (fun a' w hr w' hcw => by
  have e : (a : Int).fdiv (2 ^ (min ((b : Int).toNat) IntKind.i64.bits)) = ((a / 2 ^ b : Nat) : Int) := by
   rw [show min ((b : Int).toNat) IntKind.i64.bits = b from Nat.min_eq_left (by show b ≤ 64; omega), Int.fdiv_eq_ediv_of_nonneg _ (Int.pow_nonneg (by decide)), show ((2 : Int) ^ b) = ((2 ^ b : Nat) : Int) by simp, Int.natCast_ediv]
  have h0 : ¬ ((b : Int) < 0) := by omega
  simp only [execOp, ho, hr.evv hx, hr.evv hy, eqGuard, binOp, Op.shift, if_neg h0, e]
  simp)
end
end Go.Proofs.YtaaokimiadfidaaGreatDoor
namespace Go.Proofs.YtaaokimiadfidaaGreatDoor
open Go.RowKit
set_option linter.unusedVariables false
set_option linter.unusedSimpArgs false
set_option maxRecDepth 100000 in
theorem slices_Index_str {xs : List ByteArray} {v : ByteArray} (hl : xs.length ≤ 1000000000) :
  SpecN Tryz.prog 226 [avStrs xs, avS v] (fun y => y = avI (fidx (fun x => sEq v x) xs)) := by
 refine SpecN.of_VCN Tryz.func226 rfl Tryz.ntmps226 (Nle rfl) fun w A hB => ?_
 have hnew : True := trivial
 refine VC.sr ?_
 refine VO.ma rfl rfl rfl rfl ?_
 refine VO.nil ?_
 refine VC.seq ?_
 refine VC.sr ?_
 refine VO.mv rfl rfl rfl rfl ?_
 refine VO.val rfl rfl (OpV.len_im rfl Tryz.underlying67 rfl) ?_
 refine VO.mv rfl rfl rfl rfl ?_
 refine VO.nil ?_
 refine VC.block ?_
 refine VC.loopK [] trivial ({q : Nat // q ≤ xs.length ∧ ∀ j, j < q → sEq v (xs.getD j ByteArray.empty) = false}) (fun (iZ : {q : Nat // q ≤ xs.length ∧ ∀ j, j < q → sEq v (xs.getD j ByteArray.empty) = false}) => match iZ with | ⟨q, hq, hn⟩ => [(0, avStrs xs), (1, avS v), (6, avStrs xs), (7, avI xs.length), (8, avI (q : Int))]) (fun (iZ : {q : Nat // q ≤ xs.length ∧ ∀ j, j < q → sEq v (xs.getD j ByteArray.empty) = false}) => match iZ with | ⟨q, hq, hn⟩ => []) (fun (iZ : {q : Nat // q ≤ xs.length ∧ ∀ j, j < q → sEq v (xs.getD j ByteArray.empty) = false}) => match iZ with | ⟨q, hq, hn⟩ => 0) (fun (iZ : {q : Nat // q ≤ xs.length ∧ ∀ j, j < q → sEq v (xs.getD j ByteArray.empty) = false}) => match iZ with | ⟨q, hq, hn⟩ => xs.length - q) ⟨0, Nat.zero_le _, fun j hj => absurd hj (Nat.not_lt_zero j)⟩ (Le.mk hB [] ⟨rfl, rfl, rfl, rfl, rfl, trivial⟩ rfl rfl (Nat.le_refl _)) ?_
 rintro ⟨q, hq, hn⟩
 show VC _ _ _ _ ⟨[(0, avStrs xs), (1, avS v), (6, avStrs xs), (7, avI xs.length), (8, avI (q : Int))] ++ [], [], 0⟩
 refine VC.sr ?_
 refine VO.val rfl rfl (OpV.lss rfl rfl rfl) ?_
 refine VO.nil ?_
 refine VC.seq ?_
 refine VC.cond rfl (fun aH1b => ?_) (fun aH1b => ?_)
 ·have aH1 := aH1b
  try simp only [qqT, qqF, qqN, qqM, qqL, qqE] at aH1
  refine VC.skip ?_
  refine VC.seq ?_
  refine VC.block ?_
  refine VC.sr ?_
  refine VO.mv rfl rfl rfl rfl ?_
  refine VO.ma rfl rfl rfl rfl ?_
  refine VO.nil ?_
  refine VC.sr ?_
  refine VO.mv rfl rfl rfl rfl ?_
  refine VO.mv rfl rfl rfl rfl ?_
  refine VO.mv rfl rfl rfl rfl ?_
  refine VO.val rfl rfl (OpV.indexAddr_1 rfl Tryz.underlying67 Tryz.sizeOf9 rfl rfl rfl (by omega)) ?_
  refine VO.val rfl rfl (OpV.load_at rfl hB OutW.no Tryz.isAgg9 rfl rfl) ?_
  refine VO.val rfl rfl (OpV.seql rfl rfl rfl) ?_
  refine VO.nil ?_
  refine VC.cond rfl (fun aH2b => ?_) (fun aH2b => ?_)
  ·have aH2 := aH2b
   try simp only [qqT, qqF, qqN, qqM, qqL, qqE] at aH2
   refine VC.sr ?_
   refine VO.mv rfl rfl rfl rfl ?_
   refine VO.ma rfl rfl rfl rfl ?_
   refine VO.nil ?_
   refine VC.ret ?_
   exact Exists.intro _ (And.intro (RetN.one Tryz.results226 (ResN.v rfl)) (by first | (rw [fidx_found (d := ByteArray.empty) (q := q) (by omega) hn (by assumption)]) | (rw [fidx_none (d := ByteArray.empty) (fun j hj => hn j (by omega))])))
  ·have aH2 := aH2b
   try simp only [qqT, qqF, qqN, qqM, qqL, qqE] at aH2
   refine VC.skip ?_
   refine VC.region ?_
   refine VO.val rfl rfl (OpV.add rfl rfl rfl (by unfold fits; omega)) ?_
   refine VO.mv rfl rfl rfl rfl ?_
   refine VO.nil ?_
   exact Exists.intro (⟨q + 1, by omega, lt_succ_cases hn (by assumption)⟩) (And.intro (Le.mk hB [] ⟨rfl, rfl, rfl, rfl, rfl, trivial⟩ rfl rfl (Nat.le_refl _)) (by first | omega | (show _ < _; omega) | (simp only []; omega)))
 ·have aH1 := aH1b
  try simp only [qqT, qqF, qqN, qqM, qqL, qqE] at aH1
  refine VC.exit ?_
  refine VC.sr ?_
  refine VO.ma rfl rfl rfl rfl ?_
  refine VO.nil ?_
  refine VC.ret ?_
  exact Exists.intro _ (And.intro (RetN.one Tryz.results226 (ResN.v rfl)) (by first | (rw [fidx_found (d := ByteArray.empty) (q := q) (by omega) hn (by assumption)]) | (rw [fidx_none (d := ByteArray.empty) (fun j hj => hn j (by omega))])))
set_option maxRecDepth 100000 in
theorem slices_Contains_str {xs : List ByteArray} {v : ByteArray} (hl : xs.length ≤ 1000000000) :
  SpecN Tryz.prog 101 [avStrs xs, avS v] (fun y => y = avB (xs.any fun x => sEq v x)) := by
 refine SpecN.of_VCN Tryz.func101 rfl Tryz.ntmps101 (Nle rfl) fun w A hB => ?_
 have hnew : True := trivial
 refine VC.sr ?_
 refine VO.ma rfl rfl rfl rfl ?_
 refine VO.nil ?_
 refine VC.sr ?_
 refine VO.mv rfl rfl rfl rfl ?_
 refine VO.mv rfl rfl rfl rfl ?_
 refine VO.op rfl (OpE.call rfl hB rfl Tryz.call226 rfl (SpecN.spec ((slices_Index_str (by omega)))) ?_)
 rintro _ rfl
 refine VO.val rfl rfl (OpV.geq rfl rfl rfl) ?_
 refine VO.ma rfl rfl rfl rfl ?_
 refine VO.nil ?_
 refine VC.ret ?_
 exact Exists.intro _ (And.intro (RetN.one Tryz.results101 (ResN.v rfl)) (by rw [← fidx_any]))
end Go.Proofs.YtaaokimiadfidaaGreatDoor
namespace Go.Proofs.YtaaokimiadfidaaGreatDoor
open Go.RowKit
set_option linter.unusedVariables false
set_option linter.unusedSimpArgs false
set_option maxRecDepth 100000 in
theorem line_canFault {l : List ByteArray} (hl : l.length ≤ 1000000000) (hb : ∀ i, (l.getD i ByteArray.empty).size ≤ 1000000000) :
  SpecN Tryz.prog 336 [avStrs l] (fun y => y = avI (canF l)) := by
 refine SpecN.of_VCN Tryz.func336 rfl Tryz.ntmps336 (Nle rfl) fun w A hB => ?_
 have hnew : True := trivial
 refine VC.sr ?_
 refine VO.ma rfl rfl rfl rfl ?_
 refine VO.nil ?_
 refine VC.seq ?_
 refine VC.sr ?_
 refine VO.mv rfl rfl rfl rfl ?_
 refine VO.val rfl rfl (OpV.len_im rfl Tryz.underlying67 rfl) ?_
 refine VO.val rfl rfl (OpV.gtr rfl rfl rfl) ?_
 refine VO.nil ?_
 refine VC.cond rfl (fun aH1b => ?_) (fun aH1b => ?_)
 ·have aH1 := aH1b
  try simp only [qqT, qqF, qqN, qqM, qqL, qqE] at aH1
  refine VC.sr ?_
  refine VO.ma rfl rfl rfl rfl ?_
  refine VO.nil ?_
  refine VC.ret ?_
  exact Exists.intro _ (And.intro (RetN.one Tryz.results336 (ResN.v rfl)) (by rw [canF_big (by omega)]))
 ·have aH1 := aH1b
  try simp only [qqT, qqF, qqN, qqM, qqL, qqE] at aH1
  refine VC.skip ?_
  refine VC.seq ?_
  refine VC.sr ?_
  refine VO.mv rfl rfl rfl rfl ?_
  refine VO.val rfl rfl (OpV.len_im rfl Tryz.underlying67 rfl) ?_
  refine VO.mv rfl rfl rfl rfl ?_
  refine VO.nil ?_
  refine VC.block ?_
  refine VC.loopK [] trivial ({q : Nat // q ≤ l.length ∧ ∀ j, j < q → canE l j = 0}) (fun (iZ : {q : Nat // q ≤ l.length ∧ ∀ j, j < q → canE l j = 0}) => match iZ with | ⟨q, hq, hn⟩ => [(0, avStrs l), (8, avStrs l), (9, avI l.length), (10, avI (q : Int))]) (fun (iZ : {q : Nat // q ≤ l.length ∧ ∀ j, j < q → canE l j = 0}) => match iZ with | ⟨q, hq, hn⟩ => []) (fun (iZ : {q : Nat // q ≤ l.length ∧ ∀ j, j < q → canE l j = 0}) => match iZ with | ⟨q, hq, hn⟩ => 0) (fun (iZ : {q : Nat // q ≤ l.length ∧ ∀ j, j < q → canE l j = 0}) => match iZ with | ⟨q, hq, hn⟩ => l.length - q) ⟨0, Nat.zero_le _, fun j hj => absurd hj (Nat.not_lt_zero j)⟩ (Le.mk hB [] ⟨rfl, rfl, rfl, rfl, trivial⟩ rfl rfl (Nat.le_refl _)) ?_
  rintro ⟨q, hq, hn⟩
  show VC _ _ _ _ ⟨[(0, avStrs l), (8, avStrs l), (9, avI l.length), (10, avI (q : Int))] ++ [], [], 0⟩
  refine VC.sr ?_
  refine VO.val rfl rfl (OpV.lss rfl rfl rfl) ?_
  refine VO.nil ?_
  refine VC.seq ?_
  refine VC.cond rfl (fun hib => ?_) (fun hib => ?_)
  ·have hi := hib
   try simp only [qqT, qqF, qqN, qqM, qqL, qqE] at hi
   refine VC.skip ?_
   refine VC.seq ?_
   refine VC.block ?_
   refine VC.sr ?_
   refine VO.mv rfl rfl rfl rfl ?_
   refine VO.val rfl rfl (OpV.indexAddr_1 rfl Tryz.underlying67 Tryz.sizeOf9 rfl rfl rfl (by omega)) ?_
   refine VO.val rfl rfl (OpV.load_at rfl hB OutW.no Tryz.isAgg9 rfl rfl) ?_
   refine VO.ma rfl rfl rfl rfl ?_
   refine VO.ma rfl rfl rfl rfl ?_
   refine VO.nil ?_
   refine VC.seq ?_
   refine VC.sr ?_
   refine VO.mv rfl rfl rfl rfl ?_
   refine VO.op rfl (OpE.call rfl hB rfl Tryz.call116 rfl (SpecN.spec (kit_IsKey (hb _))) ?_)
   rintro _ rfl
   refine VO.val rfl rfl (OpV.not rfl rfl) ?_
   refine VO.nil ?_
   refine VC.cond rfl (fun hkb => ?_) (fun hkb => ?_)
   ·have hk := hkb
    try simp only [qqT, qqF, qqN, qqM, qqL, qqE] at hk
    refine VC.sr ?_
    refine VO.ma rfl rfl rfl rfl ?_
    refine VO.nil ?_
    refine VC.ret ?_
    exact Exists.intro _ (And.intro (RetN.one Tryz.results336 (ResN.v rfl)) (by rw [canF_at (by omega) (by omega) hn (by rw [canE_5 hk]; decide), canE_5 hk]))
   ·have hk := hkb
    try simp only [qqT, qqF, qqN, qqM, qqL, qqE] at hk
    refine VC.skip ?_
    refine VC.sr ?_
    refine VO.mv rfl rfl rfl rfl ?_
    refine VO.val rfl rfl (OpV.gtr rfl rfl rfl) ?_
    refine VO.mv rfl rfl rfl rfl ?_
    refine VO.opG rfl rfl rfl rfl (fun aK2b => ?_) (fun aK2b => ?_)
    ·replace aK2b : _ = true := aK2b
     have aK2 := aK2b
     try simp only [qqT, qqF, qqN, qqM, qqL, qqE] at aK2
     refine OpE.val (W := NoB) (OpV.move (.inl rfl) rfl) rfl ?_
     refine VO.opY rfl rfl rfl rfl aK2b ?_
     refine OpE.val (W := NoB) (OpV.move (.inl rfl) rfl) rfl ?_
     refine VO.opY rfl rfl rfl rfl aK2b ?_
     refine OpE.val (W := NoB) (OpV.move (.inl rfl) rfl) rfl ?_
     refine VO.opY rfl rfl rfl rfl aK2b ?_
     refine OpE.val (W := NoB) (OpV.sub rfl rfl rfl (by unfold fits; omega)) rfl ?_
     refine VO.opY rfl rfl rfl rfl aK2b ?_
     refine OpE.val (W := NoB) (OpV.indexAddr_1 rfl Tryz.underlying67 Tryz.sizeOf9 rfl rfl (show ((q : Int) - 1) = ((q - 1 : Nat) : Int) by omega) (by omega)) rfl ?_
     refine VO.opY rfl rfl rfl rfl aK2b ?_
     refine OpE.val (W := NoB) (OpV.load_at rfl hB OutW.no Tryz.isAgg9 rfl rfl) rfl ?_
     refine VO.opY rfl rfl rfl rfl aK2b ?_
     refine OpE.val (W := NoB) (OpV.sleq rfl rfl rfl) rfl ?_
     refine VO.val rfl rfl (OpV.pickT rfl rfl rfl rfl aK2b) ?_
     refine VO.nil ?_
     refine VC.cond rfl (fun hsb => ?_) (fun hsb => ?_)
     ·have hs := hsb
      try simp only [qqT, qqF, qqN, qqM, qqL, qqE] at hs
      refine VC.sr ?_
      refine VO.ma rfl rfl rfl rfl ?_
      refine VO.nil ?_
      refine VC.ret ?_
      exact Exists.intro _ (And.intro (RetN.one Tryz.results336 (ResN.v rfl)) (by rw [canF_at (by omega) (by omega) hn (by rw [canE_7 hk (by omega) hs]; decide), canE_7 hk (by omega) hs]))
     ·have hs := hsb
      try simp only [qqT, qqF, qqN, qqM, qqL, qqE] at hs
      refine VC.skip ?_
      refine VC.region ?_
      refine VO.val rfl rfl (OpV.add rfl rfl rfl (by unfold fits; omega)) ?_
      refine VO.mv rfl rfl rfl rfl ?_
      refine VO.nil ?_
      exact Exists.intro (⟨q + 1, by omega, lt_succ_cases hn (canE_0 hk (.inr hs))⟩) (And.intro (Le.mk hB [] ⟨rfl, rfl, rfl, rfl, trivial⟩ rfl rfl (Nat.le_refl _)) (by first | omega | (show _ < _; omega) | (simp only []; omega)))
    ·replace aK2b : _ = false := aK2b
     have aK2 := aK2b
     try simp only [qqT, qqF, qqN, qqM, qqL, qqE] at aK2
     refine VO.opX rfl rfl rfl rfl aK2b ?_
     refine VO.opX rfl rfl rfl rfl aK2b ?_
     refine VO.opX rfl rfl rfl rfl aK2b ?_
     refine VO.opX rfl rfl rfl rfl aK2b ?_
     refine VO.opX rfl rfl rfl rfl aK2b ?_
     refine VO.opX rfl rfl rfl rfl aK2b ?_
     refine VO.val rfl rfl (OpV.pickF rfl rfl rfl rfl aK2b) ?_
     refine VO.nil ?_
     refine VC.condF rfl rfl ?_
     refine VC.skip ?_
     refine VC.region ?_
     refine VO.val rfl rfl (OpV.add rfl rfl rfl (by unfold fits; omega)) ?_
     refine VO.mv rfl rfl rfl rfl ?_
     refine VO.nil ?_
     exact Exists.intro (⟨q + 1, by omega, lt_succ_cases hn (canE_0 hk (.inl (by omega)))⟩) (And.intro (Le.mk hB [] ⟨rfl, rfl, rfl, rfl, trivial⟩ rfl rfl (Nat.le_refl _)) (by first | omega | (show _ < _; omega) | (simp only []; omega)))
  ·have hi := hib
   try simp only [qqT, qqF, qqN, qqM, qqL, qqE] at hi
   refine VC.exit ?_
   refine VC.sr ?_
   refine VO.ma rfl rfl rfl rfl ?_
   refine VO.nil ?_
   refine VC.ret ?_
   exact Exists.intro _ (And.intro (RetN.one Tryz.results336 (ResN.v rfl)) (by rw [canF_ok (by omega) (fun j hj => hn j (by omega))]))
set_option maxRecDepth 100000 in
theorem line_NeedsFault {l : List NeedS} {lo hi : Int} (hl : l.length ≤ 1000000000) (hb : ∀ i, (l.getD i default).key.size ≤ 1000000000) :
  SpecN Tryz.prog 267 [avL l, avI lo, avI hi] (fun y => y = avI (needsF l lo hi)) := by
 refine SpecN.of_VCN Tryz.func267 rfl Tryz.ntmps267 (Nle rfl) fun w A hB => ?_
 have hnew : True := trivial
 refine VC.sr ?_
 refine VO.ma rfl rfl rfl rfl ?_
 refine VO.nil ?_
 refine VC.seq ?_
 refine VC.sr ?_
 refine VO.mv rfl rfl rfl rfl ?_
 refine VO.val rfl rfl (OpV.len_im rfl Tryz.underlying77 rfl) ?_
 refine VO.val rfl rfl (OpV.gtr rfl rfl rfl) ?_
 refine VO.nil ?_
 refine VC.cond rfl (fun aH1b => ?_) (fun aH1b => ?_)
 ·have aH1 := aH1b
  try simp only [qqT, qqF, qqN, qqM, qqL, qqE] at aH1
  refine VC.sr ?_
  refine VO.ma rfl rfl rfl rfl ?_
  refine VO.nil ?_
  refine VC.ret ?_
  exact Exists.intro _ (And.intro (RetN.one Tryz.results267 (ResN.v rfl)) (by rw [needsF_big (by omega)]))
 ·have aH1 := aH1b
  try simp only [qqT, qqF, qqN, qqM, qqL, qqE] at aH1
  refine VC.skip ?_
  refine VC.seq ?_
  refine VC.sr ?_
  refine VO.mv rfl rfl rfl rfl ?_
  refine VO.val rfl rfl (OpV.len_im rfl Tryz.underlying77 rfl) ?_
  refine VO.mv rfl rfl rfl rfl ?_
  refine VO.nil ?_
  refine VC.block ?_
  refine VC.loopK [] trivial ({q : Nat // q ≤ l.length ∧ ∀ j, j < q → needE l lo hi j = 0}) (fun (iZ : {q : Nat // q ≤ l.length ∧ ∀ j, j < q → needE l lo hi j = 0}) => match iZ with | ⟨q, hq, hn⟩ => [(0, avL l), (1, avI lo), (2, avI hi), (12, avL l), (13, avI l.length), (14, avI (q : Int))]) (fun (iZ : {q : Nat // q ≤ l.length ∧ ∀ j, j < q → needE l lo hi j = 0}) => match iZ with | ⟨q, hq, hn⟩ => []) (fun (iZ : {q : Nat // q ≤ l.length ∧ ∀ j, j < q → needE l lo hi j = 0}) => match iZ with | ⟨q, hq, hn⟩ => 0) (fun (iZ : {q : Nat // q ≤ l.length ∧ ∀ j, j < q → needE l lo hi j = 0}) => match iZ with | ⟨q, hq, hn⟩ => l.length - q) ⟨0, Nat.zero_le _, fun j hj => absurd hj (Nat.not_lt_zero j)⟩ (Le.mk hB [] ⟨rfl, rfl, rfl, rfl, rfl, rfl, trivial⟩ rfl rfl (Nat.le_refl _)) ?_
  rintro ⟨q, hq, hn⟩
  show VC _ _ _ _ ⟨[(0, avL l), (1, avI lo), (2, avI hi), (12, avL l), (13, avI l.length), (14, avI (q : Int))] ++ [], [], 0⟩
  refine VC.sr ?_
  refine VO.val rfl rfl (OpV.lss rfl rfl rfl) ?_
  refine VO.nil ?_
  refine VC.seq ?_
  refine VC.cond rfl (fun aH2b => ?_) (fun aH2b => ?_)
  ·have aH2 := aH2b
   try simp only [qqT, qqF, qqN, qqM, qqL, qqE] at aH2
   refine VC.skip ?_
   refine VC.seq ?_
   refine VC.block ?_
   refine VC.sr ?_
   refine VO.mv rfl rfl rfl rfl ?_
   refine VO.val rfl rfl (OpV.indexAddr_E rfl Tryz.underlying77 Tryz.sizeOf96 rfl rfl rfl (by omega)) ?_
   refine VO.val rfl rfl (OpV.loadK_at rfl hB OutW.no Tryz.isAgg96 Tryz.sizeOf96 rfl rfl) ?_
   refine VO.op rfl (OpE.alloc rfl hB rfl Tryz.zeroValue96 rfl ?_)
   intro g8
   refine VO.ma rfl rfl rfl rfl ?_
   refine VO.op rfl (OpE.store (i := 0) rfl hB rfl Tryz.sizeOf96 rfl rfl rfl rfl rfl rfl (Nle rfl) trivial ?_)
   refine VO.nil ?_
   refine VC.block ?_
   refine VC.sr ?_
   refine VO.val rfl rfl (OpV.fieldAddrO 0 rfl Tryz.underlying96 rfl rfl Tryz.sizeOf9 rfl) ?_
   refine VO.val rfl rfl (OpV.load_own (i := 0) rfl hB Tryz.isAgg9 rfl rfl rfl (fun h => h)) ?_
   refine VO.op rfl (OpE.call rfl hB rfl Tryz.call116 rfl (SpecN.spec (kit_IsKey (hb _))) ?_)
   rintro _ rfl
   refine VO.val rfl rfl (OpV.not rfl rfl) ?_
   refine VO.ma rfl rfl rfl rfl ?_
   refine VO.nil ?_
   refine VC.cond rfl (fun hkb => ?_) (fun hkb => ?_)
   ·have hk := hkb
    try simp only [qqT, qqF, qqN, qqM, qqL, qqE] at hk
    refine VC.sr ?_
    refine VO.ma rfl rfl rfl rfl ?_
    refine VO.nil ?_
    refine VC.ret ?_
    exact Exists.intro _ (And.intro (RetN.one Tryz.results267 (ResN.v rfl)) (by rw [needsF_at (by omega) (by omega) hn (needE_5 hk) (by decide)]))
   ·have hk := hkb
    try simp only [qqT, qqF, qqN, qqM, qqL, qqE] at hk
    refine VC.seq ?_
    refine VC.draw (fun _ => NoB) hB (by kernel_rfl) ?_
    refine VA.take (i := 0) rfl (by kernel_rfl) (by kernel_rfl) (by kernel_rfl) rfl rfl (OpV.move (.inl rfl) rfl) ?_
    refine VA.take (i := 1) rfl (by kernel_rfl) (by kernel_rfl) (by kernel_rfl) rfl rfl (OpV.gtr rfl rfl rfl) ?_
    refine VA.take (i := 2) rfl (by kernel_rfl) (by kernel_rfl) (by kernel_rfl) rfl rfl (OpV.move (.inl rfl) rfl) ?_
    refine VA.split (t := 27) rfl (fun aK3b => ?_) (fun aK3b => ?_)
    ·have aK3 := aK3b
     try simp only [qqT, qqF, qqN, qqM, qqL, qqE] at aK3
     refine VA.takeY (i := 3) rfl (by kernel_rfl) (by kernel_rfl) (by kernel_rfl) rfl rfl rfl rfl aK3b (OpV.fieldAddrO 0 rfl Tryz.underlying96 rfl rfl Tryz.sizeOf9 rfl) ?_
     refine VA.takeY (i := 4) rfl (by kernel_rfl) (by kernel_rfl) (by kernel_rfl) rfl rfl rfl rfl aK3b (OpV.load_own (i := 0) rfl hB Tryz.isAgg9 rfl rfl rfl Wi.not0) ?_
     refine VA.takeY (i := 5) rfl (by kernel_rfl) (by kernel_rfl) (by kernel_rfl) rfl rfl rfl rfl aK3b (OpV.move (.inl rfl) rfl) ?_
     refine VA.takeY (i := 6) rfl (by kernel_rfl) (by kernel_rfl) (by kernel_rfl) rfl rfl rfl rfl aK3b (OpV.move (.inl rfl) rfl) ?_
     refine VA.takeY (i := 7) rfl (by kernel_rfl) (by kernel_rfl) (by kernel_rfl) rfl rfl rfl rfl aK3b (OpV.sub rfl rfl rfl (by unfold fits; omega)) ?_
     refine VA.takeY (i := 8) rfl (by kernel_rfl) (by kernel_rfl) (by kernel_rfl) rfl rfl rfl rfl aK3b (OpV.indexAddr_E rfl Tryz.underlying77 Tryz.sizeOf96 rfl rfl (show ((q : Int) - 1) = ((q - 1 : Nat) : Int) by omega) (by omega)) ?_
     refine VA.takeY (i := 9) rfl (by kernel_rfl) (by kernel_rfl) (by kernel_rfl) rfl rfl rfl rfl aK3b (OpV.fieldAddr_atO 0 rfl Tryz.underlying96 rfl rfl Tryz.sizeOf9 rfl rfl) ?_
     refine VA.takeY (i := 10) rfl (by kernel_rfl) (by kernel_rfl) (by kernel_rfl) rfl rfl rfl rfl aK3b (OpV.load_at rfl hB OutW.wi0 Tryz.isAgg9 rfl rfl) ?_
     refine VA.takeY (i := 11) rfl (by kernel_rfl) (by kernel_rfl) (by kernel_rfl) rfl rfl rfl rfl aK3b (OpV.sleq rfl rfl rfl) ?_
     refine VA.take (i := 12) rfl (by kernel_rfl) (by kernel_rfl) (by kernel_rfl) rfl rfl (OpV.pickT rfl rfl rfl rfl aK3b) ?_
     refine VA.take (i := 13) rfl (by kernel_rfl) (by kernel_rfl) (by kernel_rfl) rfl rfl (OpV.move (.inr rfl) rfl) ?_
     refine VA.done (by kernel_rfl) ?_
     refine VC.cond rfl (fun hsb => ?_) (fun hsb => ?_)
     ·have hs := hsb
      try simp only [qqT, qqF, qqN, qqM, qqL, qqE] at hs
      refine VC.sr ?_
      refine VO.ma rfl rfl rfl rfl ?_
      refine VO.nil ?_
      refine VC.ret ?_
      exact Exists.intro _ (And.intro (RetN.one Tryz.results267 (ResN.v rfl)) (by rw [needsF_at (by omega) (by omega) hn (needE_7 hk (by omega) hs) (by decide)]))
     ·have hs := hsb
      try simp only [qqT, qqF, qqN, qqM, qqL, qqE] at hs
      refine VC.sr ?_
      refine VO.val rfl rfl (OpV.fieldAddrO 1 rfl Tryz.underlying96 rfl rfl Tryz.sizeOf3 rfl) ?_
      refine VO.val rfl rfl (OpV.load_own (i := 0) rfl hB Tryz.isAgg3 rfl rfl rfl (fun h => h)) ?_
      refine VO.mv rfl rfl rfl rfl ?_
      refine VO.mv rfl rfl rfl rfl ?_
      refine VO.op rfl (OpE.call rfl hB rfl Tryz.call119 rfl (SpecN.spec (kit_Outside)) ?_)
      rintro _ rfl
      refine VO.ma rfl rfl rfl rfl ?_
      refine VO.nil ?_
      refine VC.cond rfl (fun hob => ?_) (fun hob => ?_)
      ·have ho := hob
       try simp only [qqT, qqF, qqN, qqM, qqL, qqE] at ho
       refine VC.sr ?_
       refine VO.ma rfl rfl rfl rfl ?_
       refine VO.nil ?_
       refine VC.ret ?_
       exact Exists.intro _ (And.intro (RetN.one Tryz.results267 (ResN.v rfl)) (by first | rw [needsF_at (by omega) (by omega) hn (needE_1 hk (.inr hs) ho) (by decide)] | rw [needsF_at (by omega) (by omega) hn (needE_1 hk (.inl (by omega)) ho) (by decide)]))
      ·have ho := hob
       try simp only [qqT, qqF, qqN, qqM, qqL, qqE] at ho
       refine VC.skip ?_
       refine VC.region ?_
       refine VO.val rfl rfl (OpV.add rfl rfl rfl (by unfold fits; omega)) ?_
       refine VO.mv rfl rfl rfl rfl ?_
       refine VO.nil ?_
       exact Exists.intro (⟨q + 1, by omega, lt_succ_cases hn (needE_0 hk (.inr hs) ho)⟩) (And.intro (Le.mk hB [] ⟨rfl, rfl, rfl, rfl, rfl, rfl, trivial⟩ rfl rfl (Nat.le_refl _)) (by first | omega | (show _ < _; omega) | (simp only []; omega)))
    ·have aK3 := aK3b
     try simp only [qqT, qqF, qqN, qqM, qqL, qqE] at aK3
     refine VA.takeX (i := 3) rfl (by kernel_rfl) (by kernel_rfl) (by kernel_rfl) rfl rfl rfl rfl aK3b ?_
     refine VA.takeX (i := 4) rfl (by kernel_rfl) (by kernel_rfl) (by kernel_rfl) rfl rfl rfl rfl aK3b ?_
     refine VA.takeX (i := 5) rfl (by kernel_rfl) (by kernel_rfl) (by kernel_rfl) rfl rfl rfl rfl aK3b ?_
     refine VA.takeX (i := 6) rfl (by kernel_rfl) (by kernel_rfl) (by kernel_rfl) rfl rfl rfl rfl aK3b ?_
     refine VA.takeX (i := 7) rfl (by kernel_rfl) (by kernel_rfl) (by kernel_rfl) rfl rfl rfl rfl aK3b ?_
     refine VA.takeX (i := 8) rfl (by kernel_rfl) (by kernel_rfl) (by kernel_rfl) rfl rfl rfl rfl aK3b ?_
     refine VA.takeX (i := 9) rfl (by kernel_rfl) (by kernel_rfl) (by kernel_rfl) rfl rfl rfl rfl aK3b ?_
     refine VA.takeX (i := 10) rfl (by kernel_rfl) (by kernel_rfl) (by kernel_rfl) rfl rfl rfl rfl aK3b ?_
     refine VA.takeX (i := 11) rfl (by kernel_rfl) (by kernel_rfl) (by kernel_rfl) rfl rfl rfl rfl aK3b ?_
     refine VA.take (i := 12) rfl (by kernel_rfl) (by kernel_rfl) (by kernel_rfl) rfl rfl (OpV.pickF rfl rfl rfl rfl aK3b) ?_
     refine VA.take (i := 13) rfl (by kernel_rfl) (by kernel_rfl) (by kernel_rfl) rfl rfl (OpV.move (.inr rfl) rfl) ?_
     refine VA.done (by kernel_rfl) ?_
     refine VC.condF rfl rfl ?_
     refine VC.sr ?_
     refine VO.val rfl rfl (OpV.fieldAddrO 1 rfl Tryz.underlying96 rfl rfl Tryz.sizeOf3 rfl) ?_
     refine VO.val rfl rfl (OpV.load_own (i := 0) rfl hB Tryz.isAgg3 rfl rfl rfl (fun h => h)) ?_
     refine VO.mv rfl rfl rfl rfl ?_
     refine VO.mv rfl rfl rfl rfl ?_
     refine VO.op rfl (OpE.call rfl hB rfl Tryz.call119 rfl (SpecN.spec (kit_Outside)) ?_)
     rintro _ rfl
     refine VO.ma rfl rfl rfl rfl ?_
     refine VO.nil ?_
     refine VC.cond rfl (fun hob => ?_) (fun hob => ?_)
     ·have ho := hob
      try simp only [qqT, qqF, qqN, qqM, qqL, qqE] at ho
      refine VC.sr ?_
      refine VO.ma rfl rfl rfl rfl ?_
      refine VO.nil ?_
      refine VC.ret ?_
      exact Exists.intro _ (And.intro (RetN.one Tryz.results267 (ResN.v rfl)) (by first | rw [needsF_at (by omega) (by omega) hn (needE_1 hk (.inr hs) ho) (by decide)] | rw [needsF_at (by omega) (by omega) hn (needE_1 hk (.inl (by omega)) ho) (by decide)]))
     ·have ho := hob
      try simp only [qqT, qqF, qqN, qqM, qqL, qqE] at ho
      refine VC.skip ?_
      refine VC.region ?_
      refine VO.val rfl rfl (OpV.add rfl rfl rfl (by unfold fits; omega)) ?_
      refine VO.mv rfl rfl rfl rfl ?_
      refine VO.nil ?_
      exact Exists.intro (⟨q + 1, by omega, lt_succ_cases hn (needE_0 hk (.inl (by omega)) ho)⟩) (And.intro (Le.mk hB [] ⟨rfl, rfl, rfl, rfl, rfl, rfl, trivial⟩ rfl rfl (Nat.le_refl _)) (by first | omega | (show _ < _; omega) | (simp only []; omega)))
  ·have aH2 := aH2b
   try simp only [qqT, qqF, qqN, qqM, qqL, qqE] at aH2
   refine VC.exit ?_
   refine VC.sr ?_
   refine VO.ma rfl rfl rfl rfl ?_
   refine VO.nil ?_
   refine VC.ret ?_
   exact Exists.intro _ (And.intro (RetN.one Tryz.results267 (ResN.v rfl)) (by rw [needsF_ok (by omega) (fun j hj => hn j (by omega))]))
set_option maxRecDepth 100000 in
theorem line_CheckNeeds {l : List NeedS} (hl : l.length ≤ 1000000000) (hb : ∀ i, (l.getD i default).key.size ≤ 1000000000) :
  SpecN Tryz.prog 170 [avL l] (fun y => y = avI (needsF l 1 1000)) := by
 refine SpecN.of_VCN Tryz.func170 rfl Tryz.ntmps170 (Nle rfl) fun w A hB => ?_
 have hnew : True := trivial
 refine VC.sr ?_
 refine VO.ma rfl rfl rfl rfl ?_
 refine VO.nil ?_
 refine VC.sr ?_
 refine VO.mv rfl rfl rfl rfl ?_
 refine VO.op rfl (OpE.call rfl hB rfl Tryz.call267 rfl (SpecN.spec (line_NeedsFault hl hb)) ?_)
 rintro _ rfl
 refine VO.ma rfl rfl rfl rfl ?_
 refine VO.nil ?_
 refine VC.ret ?_
 exact Exists.intro _ (And.intro (RetN.one Tryz.results170 (ResN.v rfl)) (rfl))
set_option maxRecDepth 100000 in
theorem slices_IndexFunc_mach {xs : List Mach} {F : FuncId} {cs : List AV} {p : Mach → Bool} (hl : xs.length ≤ 1000000000) (hcall : ∀ us w, (callFunc F us).run Tryz.prog w = .ok (.enter F us) w) (hF : ∀ x, Spec Tryz.prog F ([avT x] ++ cs) (fun y => y = avB (p x))) :
  SpecN Tryz.prog 281 [avL xs, .fn F cs] (fun y => y = avI (fidx p xs)) := by
 refine SpecN.of_VCN Tryz.func281 rfl Tryz.ntmps281 (Nle rfl) fun w A hB => ?_
 have hnew : True := trivial
 refine VC.sr ?_
 refine VO.ma rfl rfl rfl rfl ?_
 refine VO.nil ?_
 refine VC.seq ?_
 refine VC.sr ?_
 refine VO.mv rfl rfl rfl rfl ?_
 refine VO.val rfl rfl (OpV.len_im rfl Tryz.underlying102 rfl) ?_
 refine VO.mv rfl rfl rfl rfl ?_
 refine VO.nil ?_
 refine VC.block ?_
 refine VC.loopK [] trivial ({q : Nat // q ≤ xs.length ∧ ∀ j, j < q → p (xs.getD j default) = false}) (fun (iZ : {q : Nat // q ≤ xs.length ∧ ∀ j, j < q → p (xs.getD j default) = false}) => match iZ with | ⟨q, hq, hn⟩ => [(0, avL xs), (1, .fn F cs), (6, avL xs), (7, avI xs.length), (8, avI (q : Int))]) (fun (iZ : {q : Nat // q ≤ xs.length ∧ ∀ j, j < q → p (xs.getD j default) = false}) => match iZ with | ⟨q, hq, hn⟩ => []) (fun (iZ : {q : Nat // q ≤ xs.length ∧ ∀ j, j < q → p (xs.getD j default) = false}) => match iZ with | ⟨q, hq, hn⟩ => 0) (fun (iZ : {q : Nat // q ≤ xs.length ∧ ∀ j, j < q → p (xs.getD j default) = false}) => match iZ with | ⟨q, hq, hn⟩ => xs.length - q) ⟨0, Nat.zero_le _, fun j hj => absurd hj (Nat.not_lt_zero j)⟩ (Le.mk hB [] ⟨rfl, rfl, rfl, rfl, rfl, trivial⟩ rfl rfl (Nat.le_refl _)) ?_
 rintro ⟨q, hq, hn⟩
 show VC _ _ _ _ ⟨[(0, avL xs), (1, .fn F cs), (6, avL xs), (7, avI xs.length), (8, avI (q : Int))] ++ [], [], 0⟩
 refine VC.sr ?_
 refine VO.val rfl rfl (OpV.lss rfl rfl rfl) ?_
 refine VO.nil ?_
 refine VC.seq ?_
 refine VC.cond rfl (fun aH1b => ?_) (fun aH1b => ?_)
 ·have aH1 := aH1b
  try simp only [qqT, qqF, qqN, qqM, qqL, qqE] at aH1
  refine VC.skip ?_
  refine VC.seq ?_
  refine VC.block ?_
  refine VC.sr ?_
  refine VO.mv rfl rfl rfl rfl ?_
  refine VO.ma rfl rfl rfl rfl ?_
  refine VO.nil ?_
  refine VC.sr ?_
  refine VO.mv rfl rfl rfl rfl ?_
  refine VO.mv rfl rfl rfl rfl ?_
  refine VO.mv rfl rfl rfl rfl ?_
  refine VO.val rfl rfl (OpV.indexAddr_E rfl Tryz.underlying102 Tryz.sizeOf128 rfl rfl rfl (by omega)) ?_
  refine VO.val rfl rfl (OpV.loadK_at rfl hB OutW.no Tryz.isAgg128 Tryz.sizeOf128 rfl rfl) ?_
  refine VO.op rfl (OpE.callF rfl hB rfl hcall rfl rfl (hF _) ?_)
  rintro _ rfl
  refine VO.nil ?_
  refine VC.cond rfl (fun aH2b => ?_) (fun aH2b => ?_)
  ·have aH2 := aH2b
   try simp only [qqT, qqF, qqN, qqM, qqL, qqE] at aH2
   refine VC.sr ?_
   refine VO.mv rfl rfl rfl rfl ?_
   refine VO.ma rfl rfl rfl rfl ?_
   refine VO.nil ?_
   refine VC.ret ?_
   exact Exists.intro _ (And.intro (RetN.one Tryz.results281 (ResN.v rfl)) (by first | (rw [fidx_found (d := default) (q := q) (by omega) hn (by assumption)]) | (rw [fidx_none (d := default) (fun j hj => hn j (by omega))])))
  ·have aH2 := aH2b
   try simp only [qqT, qqF, qqN, qqM, qqL, qqE] at aH2
   refine VC.skip ?_
   refine VC.region ?_
   refine VO.val rfl rfl (OpV.add rfl rfl rfl (by unfold fits; omega)) ?_
   refine VO.mv rfl rfl rfl rfl ?_
   refine VO.nil ?_
   exact Exists.intro (⟨q + 1, by omega, lt_succ_cases hn (by assumption)⟩) (And.intro (Le.mk hB [] ⟨rfl, rfl, rfl, rfl, rfl, trivial⟩ rfl rfl (Nat.le_refl _)) (by first | omega | (show _ < _; omega) | (simp only []; omega)))
 ·have aH1 := aH1b
  try simp only [qqT, qqF, qqN, qqM, qqL, qqE] at aH1
  refine VC.exit ?_
  refine VC.sr ?_
  refine VO.ma rfl rfl rfl rfl ?_
  refine VO.nil ?_
  refine VC.ret ?_
  exact Exists.intro _ (And.intro (RetN.one Tryz.results281 (ResN.v rfl)) (by first | (rw [fidx_found (d := default) (q := q) (by omega) hn (by assumption)]) | (rw [fidx_none (d := default) (fun j hj => hn j (by omega))])))
set_option maxRecDepth 100000 in
theorem slices_ContainsFunc_mach {xs : List Mach} {F : FuncId} {cs : List AV} {p : Mach → Bool} (hl : xs.length ≤ 1000000000) (hcall : ∀ us w, (callFunc F us).run Tryz.prog w = .ok (.enter F us) w) (hF : ∀ x, Spec Tryz.prog F ([avT x] ++ cs) (fun y => y = avB (p x))) :
  SpecN Tryz.prog 180 [avL xs, .fn F cs] (fun y => y = avB (xs.any p)) := by
 refine SpecN.of_VCN Tryz.func180 rfl Tryz.ntmps180 (Nle rfl) fun w A hB => ?_
 have hnew : True := trivial
 refine VC.sr ?_
 refine VO.ma rfl rfl rfl rfl ?_
 refine VO.nil ?_
 refine VC.sr ?_
 refine VO.mv rfl rfl rfl rfl ?_
 refine VO.mv rfl rfl rfl rfl ?_
 refine VO.op rfl (OpE.call rfl hB rfl Tryz.call281 rfl (SpecN.spec (slices_IndexFunc_mach hl hcall hF)) ?_)
 rintro _ rfl
 refine VO.val rfl rfl (OpV.geq rfl rfl rfl) ?_
 refine VO.ma rfl rfl rfl rfl ?_
 refine VO.nil ?_
 refine VC.ret ?_
 exact Exists.intro _ (And.intro (RetN.one Tryz.results180 (ResN.v rfl)) (by rw [← fidx_any]))
set_option maxRecDepth 100000 in
theorem line_CheckMachines1 {x o : Mach}  :
  SpecN Tryz.prog 335 [avT o, .at_ 5 (Sxc.cell x)] (fun y => y = avB (sEq o.key x.key)) := by
 refine SpecN.of_VCN Tryz.func335 rfl Tryz.ntmps335 (Nle rfl) fun w A hB => ?_
 have hnew : True := trivial
 refine VC.sr ?_
 refine VO.op rfl (OpE.box rfl hB rfl rfl rfl ?_)
 intro g2
 refine VO.ma rfl rfl rfl rfl ?_
 refine VO.nil ?_
 refine VC.sr ?_
 refine VO.val rfl rfl (OpV.fieldAddrO 0 rfl Tryz.underlying128 rfl rfl Tryz.sizeOf9 rfl) ?_
 refine VO.val rfl rfl (OpV.load_own (i := 0) rfl hB Tryz.isAgg9 rfl rfl rfl (fun h => h)) ?_
 refine VO.val rfl rfl (OpV.fieldAddr_atO 0 rfl Tryz.underlying128 rfl rfl Tryz.sizeOf9 rfl rfl) ?_
 refine VO.val rfl rfl (OpV.load_at rfl hB OutW.no Tryz.isAgg9 rfl rfl) ?_
 refine VO.val rfl rfl (OpV.seql rfl rfl rfl) ?_
 refine VO.ma rfl rfl rfl rfl ?_
 refine VO.nil ?_
 refine VC.ret ?_
 exact Exists.intro _ (And.intro (RetN.one Tryz.results335 (ResN.v rfl)) (rfl))
set_option maxRecDepth 100000 in
theorem line_CheckMachines {ms : List Mach} (hl : ms.length ≤ 1000000000) (hb : ∀ i, (ms.getD i default).key.size ≤ 1000000000) (hc : ∀ i, (ms.getD i default).can.length ≤ 1000000000) (hcb : ∀ i j, ((ms.getD i default).can.getD j ByteArray.empty).size ≤ 1000000000) :
  SpecN Tryz.prog 276 [avL ms] (fun y => y = avI (machF ms)) := by
 refine SpecN.of_VCN Tryz.func276 rfl Tryz.ntmps276 (Nle rfl) fun w A hB => ?_
 have hnew : True := trivial
 refine VC.sr ?_
 refine VO.ma rfl rfl rfl rfl ?_
 refine VO.nil ?_
 refine VC.seq ?_
 refine VC.sr ?_
 refine VO.mv rfl rfl rfl rfl ?_
 refine VO.val rfl rfl (OpV.len_im rfl Tryz.underlying102 rfl) ?_
 refine VO.val rfl rfl (OpV.eql rfl rfl rfl) ?_
 refine VO.nil ?_
 refine VC.cond rfl (fun aH1b => ?_) (fun aH1b => ?_)
 ·have aH1 := aH1b
  try simp only [qqT, qqF, qqN, qqM, qqL, qqE] at aH1
  refine VC.sr ?_
  refine VO.ma rfl rfl rfl rfl ?_
  refine VO.nil ?_
  refine VC.ret ?_
  exact Exists.intro _ (And.intro (RetN.one Tryz.results276 (ResN.v rfl)) (by rw [machF_none (by omega)]))
 ·have aH1 := aH1b
  try simp only [qqT, qqF, qqN, qqM, qqL, qqE] at aH1
  refine VC.skip ?_
  refine VC.seq ?_
  refine VC.sr ?_
  refine VO.mv rfl rfl rfl rfl ?_
  refine VO.val rfl rfl (OpV.len_im rfl Tryz.underlying102 rfl) ?_
  refine VO.val rfl rfl (OpV.gtr rfl rfl rfl) ?_
  refine VO.nil ?_
  refine VC.cond rfl (fun aH2b => ?_) (fun aH2b => ?_)
  ·have aH2 := aH2b
   try simp only [qqT, qqF, qqN, qqM, qqL, qqE] at aH2
   refine VC.sr ?_
   refine VO.ma rfl rfl rfl rfl ?_
   refine VO.nil ?_
   refine VC.ret ?_
   exact Exists.intro _ (And.intro (RetN.one Tryz.results276 (ResN.v rfl)) (by rw [machF_big (by omega)]))
  ·have aH2 := aH2b
   try simp only [qqT, qqF, qqN, qqM, qqL, qqE] at aH2
   refine VC.skip ?_
   refine VC.seq ?_
   refine VC.sr ?_
   refine VO.mv rfl rfl rfl rfl ?_
   refine VO.val rfl rfl (OpV.len_im rfl Tryz.underlying102 rfl) ?_
   refine VO.mv rfl rfl rfl rfl ?_
   refine VO.nil ?_
   refine VC.block ?_
   refine VC.loopK [] trivial ({q : Nat // q ≤ ms.length ∧ ∀ j, j < q → machE ms j = 0}) (fun (iZ : {q : Nat // q ≤ ms.length ∧ ∀ j, j < q → machE ms j = 0}) => match iZ with | ⟨q, hq, hn⟩ => [(0, avL ms), (12, avL ms), (13, avI ms.length), (14, avI (q : Int))]) (fun (iZ : {q : Nat // q ≤ ms.length ∧ ∀ j, j < q → machE ms j = 0}) => match iZ with | ⟨q, hq, hn⟩ => []) (fun (iZ : {q : Nat // q ≤ ms.length ∧ ∀ j, j < q → machE ms j = 0}) => match iZ with | ⟨q, hq, hn⟩ => 0) (fun (iZ : {q : Nat // q ≤ ms.length ∧ ∀ j, j < q → machE ms j = 0}) => match iZ with | ⟨q, hq, hn⟩ => ms.length - q) ⟨0, Nat.zero_le _, fun j hj => absurd hj (Nat.not_lt_zero j)⟩ (Le.mk hB [] ⟨rfl, rfl, rfl, rfl, trivial⟩ rfl rfl (Nat.le_refl _)) ?_
   rintro ⟨q, hq, hn⟩
   show VC _ _ _ _ ⟨[(0, avL ms), (12, avL ms), (13, avI ms.length), (14, avI (q : Int))] ++ [], [], 0⟩
   refine VC.sr ?_
   refine VO.val rfl rfl (OpV.lss rfl rfl rfl) ?_
   refine VO.nil ?_
   refine VC.seq ?_
   refine VC.cond rfl (fun aH3b => ?_) (fun aH3b => ?_)
   ·have aH3 := aH3b
    try simp only [qqT, qqF, qqN, qqM, qqL, qqE] at aH3
    refine VC.skip ?_
    refine VC.seq ?_
    refine VC.block ?_
    refine VC.sr ?_
    refine VO.mv rfl rfl rfl rfl ?_
    refine VO.val rfl rfl (OpV.indexAddr_E rfl Tryz.underlying102 Tryz.sizeOf128 rfl rfl rfl (by omega)) ?_
    refine VO.val rfl rfl (OpV.loadK_at rfl hB OutW.no Tryz.isAgg128 Tryz.sizeOf128 rfl rfl) ?_
    refine VO.op rfl (OpE.alloc rfl hB rfl Tryz.zeroValue128 rfl ?_)
    intro g4
    refine VO.ma rfl rfl rfl rfl ?_
    refine VO.op rfl (OpE.store (i := 0) rfl hB rfl Tryz.sizeOf128 rfl rfl rfl rfl rfl rfl (Nle rfl) trivial ?_)
    refine VO.nil ?_
    refine VC.seq ?_
    refine VC.block ?_
    refine VC.sr ?_
    refine VO.val rfl rfl (OpV.fieldAddrO 0 rfl Tryz.underlying128 rfl rfl Tryz.sizeOf9 rfl) ?_
    refine VO.val rfl rfl (OpV.load_own (i := 0) rfl hB Tryz.isAgg9 rfl rfl rfl (fun h => h)) ?_
    refine VO.op rfl (OpE.call rfl hB rfl Tryz.call116 rfl (SpecN.spec (kit_IsKey (hb _))) ?_)
    rintro _ rfl
    refine VO.val rfl rfl (OpV.not rfl rfl) ?_
    refine VO.ma rfl rfl rfl rfl ?_
    refine VO.nil ?_
    refine VC.cond rfl (fun hkb => ?_) (fun hkb => ?_)
    ·have hk := hkb
     try simp only [qqT, qqF, qqN, qqM, qqL, qqE] at hk
     refine VC.sr ?_
     refine VO.ma rfl rfl rfl rfl ?_
     refine VO.nil ?_
     refine VC.ret ?_
     exact Exists.intro _ (And.intro (RetN.one Tryz.results276 (ResN.v rfl)) (by rw [machF_at (by omega) (by omega) (by omega) hn (machE_5 hk) (by decide)]))
    ·have hk := hkb
     try simp only [qqT, qqF, qqN, qqM, qqL, qqE] at hk
     refine VC.sr ?_
     refine VO.mv rfl rfl rfl rfl ?_
     refine VO.mv rfl rfl rfl rfl ?_
     refine VO.val rfl rfl (OpV.slice_L (h := q) rfl Tryz.underlying102 Tryz.sizeOf128 rfl rfl ⟨_, _, rfl, rfl⟩ (by omega) (by omega)) ?_
     refine VO.val rfl rfl (OpV.makeFunc1 rfl rfl) ?_
     refine VO.op rfl (OpE.callL rfl hB rfl Tryz.call180 (slices_ContainsFunc_mach (p := fun o => sEq o.key (ms.getD q default).key) (by rw [len_cut (by omega)]; omega) Tryz.call335 (fun x => line_CheckMachines1.spec)) (ArgsP.cons (ArgP.ev rfl) (ArgsP.cons (ArgP.fn1 (i := 0) (m := 5) (f := Sxc.cell (ms.getD q default)) rfl rfl (Nle rfl) (lt5 rfl rfl rfl rfl rfl)) (ArgsP.nil))) ?_)
     rintro _ rfl
     refine VO.ma rfl rfl rfl rfl ?_
     refine VO.nil ?_
     refine VC.cond rfl (fun h2b => ?_) (fun h2b => ?_)
     ·have h2 := h2b
      try simp only [qqT, qqF, qqN, qqM, qqL, qqE] at h2
      refine VC.sr ?_
      refine VO.ma rfl rfl rfl rfl ?_
      refine VO.nil ?_
      refine VC.ret ?_
      exact Exists.intro _ (And.intro (RetN.one Tryz.results276 (ResN.v rfl)) (by rw [machF_at (by omega) (by omega) (by omega) hn (machE_6 hk h2) (by decide)]))
     ·have h2 := h2b
      try simp only [qqT, qqF, qqN, qqM, qqL, qqE] at h2
      refine VC.sr ?_
      refine VO.val rfl rfl (OpV.fieldAddrO 1 rfl Tryz.underlying128 rfl rfl Tryz.sizeOf3 rfl) ?_
      refine VO.val rfl rfl (OpV.load_own (i := 0) rfl hB Tryz.isAgg3 rfl rfl rfl (fun h => h)) ?_
      refine VO.op rfl (OpE.call rfl hB rfl Tryz.call119 rfl (SpecN.spec (kit_Outside)) ?_)
      rintro _ rfl
      refine VO.mv rfl rfl rfl rfl ?_
      refine VO.opG rfl rfl rfl rfl (fun aK4b => ?_) (fun aK4b => ?_)
      ·replace aK4b : _ = false := aK4b
       have aK4 := aK4b
       try simp only [qqT, qqF, qqN, qqM, qqL, qqE] at aK4
       refine OpE.val (W := NoB) (OpV.fieldAddrO 2 rfl Tryz.underlying128 rfl rfl Tryz.sizeOf3 rfl) rfl ?_
       refine VO.opY rfl rfl rfl rfl aK4b ?_
       refine OpE.val (W := NoB) (OpV.load_own (i := 0) rfl hB Tryz.isAgg3 rfl rfl rfl (fun h => h)) rfl ?_
       refine VO.opY rfl rfl rfl rfl aK4b ?_
       refine OpE.call rfl hB rfl Tryz.call119 rfl (SpecN.spec (kit_Outside)) ?_
       rintro _ rfl
       refine VO.val rfl rfl (OpV.pickF rfl rfl rfl rfl aK4b) ?_
       refine VO.mv rfl rfl rfl rfl ?_
       refine VO.opG rfl rfl rfl rfl (fun aK5b => ?_) (fun aK5b => ?_)
       ·replace aK5b : _ = false := aK5b
        have aK5 := aK5b
        try simp only [qqT, qqF, qqN, qqM, qqL, qqE] at aK5
        refine OpE.val (W := NoB) (OpV.fieldAddrO 3 rfl Tryz.underlying128 rfl rfl Tryz.sizeOf3 rfl) rfl ?_
        refine VO.opY rfl rfl rfl rfl aK5b ?_
        refine OpE.val (W := NoB) (OpV.load_own (i := 0) rfl hB Tryz.isAgg3 rfl rfl rfl (fun h => h)) rfl ?_
        refine VO.opY rfl rfl rfl rfl aK5b ?_
        refine OpE.call rfl hB rfl Tryz.call119 rfl (SpecN.spec (kit_Outside)) ?_
        rintro _ rfl
        refine VO.val rfl rfl (OpV.pickF rfl rfl rfl rfl aK5b) ?_
        refine VO.ma rfl rfl rfl rfl ?_
        refine VO.nil ?_
        refine VC.cond rfl (fun h3b => ?_) (fun h3b => ?_)
        ·have h3 := h3b
         try simp only [qqT, qqF, qqN, qqM, qqL, qqE] at h3
         refine VC.sr ?_
         refine VO.ma rfl rfl rfl rfl ?_
         refine VO.nil ?_
         refine VC.ret ?_
         exact Exists.intro _ (And.intro (RetN.one Tryz.results276 (ResN.v rfl)) (by rw [machF_at (by omega) (by omega) (by omega) hn (machE_1 hk h2 (by first | exact or3a (by assumption) | exact or3b (by assumption) | exact or3c (by assumption))) (by decide)]))
        ·have h3 := h3b
         try simp only [qqT, qqF, qqN, qqM, qqL, qqE] at h3
         refine VC.skip ?_
         refine VC.sr ?_
         refine VO.val rfl rfl (OpV.fieldAddrO 4 rfl Tryz.underlying128 rfl rfl Tryz.sizeOf67 rfl) ?_
         refine VO.val rfl rfl (OpV.load_own (i := 0) rfl hB Tryz.isAgg67 rfl rfl rfl (fun h => h)) ?_
         refine VO.op rfl (OpE.call rfl hB rfl Tryz.call336 rfl (SpecN.spec (line_canFault (hc _) (hcb _))) ?_)
         rintro _ rfl
         refine VO.ma rfl rfl rfl rfl ?_
         refine VO.nil ?_
         refine VC.sr ?_
         refine VO.mv rfl rfl rfl rfl ?_
         refine VO.val rfl rfl (OpV.neq rfl rfl rfl) ?_
         refine VO.nil ?_
         refine VC.cond rfl (fun h4b => ?_) (fun h4b => ?_)
         ·have h4 := h4b
          try simp only [qqT, qqF, qqN, qqM, qqL, qqE] at h4
          refine VC.sr ?_
          refine VO.mv rfl rfl rfl rfl ?_
          refine VO.ma rfl rfl rfl rfl ?_
          refine VO.nil ?_
          refine VC.ret ?_
          exact Exists.intro _ (And.intro (RetN.one Tryz.results276 (ResN.v rfl)) (by rw [machF_at (by omega) (by omega) (by omega) hn (machE_x hk h2 (or3f (by assumption) (by assumption) (by assumption))) h4]))
         ·have h4 := h4b
          try simp only [qqT, qqF, qqN, qqM, qqL, qqE] at h4
          refine VC.skip ?_
          refine VC.region ?_
          refine VO.val rfl rfl (OpV.add rfl rfl rfl (by unfold fits; omega)) ?_
          refine VO.mv rfl rfl rfl rfl ?_
          refine VO.nil ?_
          exact Exists.intro (⟨q + 1, by omega, lt_succ_cases hn (by rw [machE_x hk h2 (or3f (by assumption) (by assumption) (by assumption))]; omega)⟩) (And.intro (Le.mk hB [] ⟨rfl, rfl, rfl, rfl, trivial⟩ rfl rfl (Nat.le_refl _)) (by first | omega | (show _ < _; omega) | (simp only []; omega)))
       ·replace aK5b : _ = true := aK5b
        have aK5 := aK5b
        try simp only [qqT, qqF, qqN, qqM, qqL, qqE] at aK5
        refine VO.opX rfl rfl rfl rfl aK5b ?_
        refine VO.opX rfl rfl rfl rfl aK5b ?_
        refine VO.val rfl rfl (OpV.pickT rfl rfl rfl rfl aK5b) ?_
        refine VO.ma rfl rfl rfl rfl ?_
        refine VO.nil ?_
        refine VC.condT rfl rfl ?_
        refine VC.sr ?_
        refine VO.ma rfl rfl rfl rfl ?_
        refine VO.nil ?_
        refine VC.ret ?_
        exact Exists.intro _ (And.intro (RetN.one Tryz.results276 (ResN.v rfl)) (by rw [machF_at (by omega) (by omega) (by omega) hn (machE_1 hk h2 (by first | exact or3a (by assumption) | exact or3b (by assumption) | exact or3c (by assumption))) (by decide)]))
      ·replace aK4b : _ = true := aK4b
       have aK4 := aK4b
       try simp only [qqT, qqF, qqN, qqM, qqL, qqE] at aK4
       refine VO.opX rfl rfl rfl rfl aK4b ?_
       refine VO.opX rfl rfl rfl rfl aK4b ?_
       refine VO.val rfl rfl (OpV.pickT rfl rfl rfl rfl aK4b) ?_
       refine VO.mv rfl rfl rfl rfl ?_
       refine VO.opX rfl rfl rfl rfl rfl ?_
       refine VO.opX rfl rfl rfl rfl rfl ?_
       refine VO.opX rfl rfl rfl rfl rfl ?_
       refine VO.val rfl rfl (OpV.pickT rfl rfl rfl rfl rfl) ?_
       refine VO.ma rfl rfl rfl rfl ?_
       refine VO.nil ?_
       refine VC.condT rfl rfl ?_
       refine VC.sr ?_
       refine VO.ma rfl rfl rfl rfl ?_
       refine VO.nil ?_
       refine VC.ret ?_
       exact Exists.intro _ (And.intro (RetN.one Tryz.results276 (ResN.v rfl)) (by rw [machF_at (by omega) (by omega) (by omega) hn (machE_1 hk h2 (by first | exact or3a (by assumption) | exact or3b (by assumption) | exact or3c (by assumption))) (by decide)]))
   ·have aH3 := aH3b
    try simp only [qqT, qqF, qqN, qqM, qqL, qqE] at aH3
    refine VC.exit ?_
    refine VC.sr ?_
    refine VO.ma rfl rfl rfl rfl ?_
    refine VO.nil ?_
    refine VC.ret ?_
    exact Exists.intro _ (And.intro (RetN.one Tryz.results276 (ResN.v rfl)) (by rw [machF_ok (by omega) (by omega) (fun j hj => hn j (by omega))]))
set_option maxRecDepth 100000 in
theorem line_fault {ms : List Mach} {ns : List NeedS} (hl : ms.length ≤ 1000000000) (hb : ∀ i, (ms.getD i default).key.size ≤ 1000000000) (hc : ∀ i, (ms.getD i default).can.length ≤ 1000000000) (hcb : ∀ i j, ((ms.getD i default).can.getD j ByteArray.empty).size ≤ 1000000000) (hl' : ns.length ≤ 1000000000) (hb' : ∀ i, (ns.getD i default).key.size ≤ 1000000000) :
  SpecN Tryz.prog 172 [avL ms, avL ns] (fun y => y = avI (faultF ms ns)) := by
 refine SpecN.of_VCN Tryz.func172 rfl Tryz.ntmps172 (Nle rfl) fun w A hB => ?_
 have hnew : True := trivial
 refine VC.sr ?_
 refine VO.ma rfl rfl rfl rfl ?_
 refine VO.nil ?_
 refine VC.seq ?_
 refine VC.sr ?_
 refine VO.mv rfl rfl rfl rfl ?_
 refine VO.op rfl (OpE.call rfl hB rfl Tryz.call276 rfl (SpecN.spec (line_CheckMachines hl hb hc hcb)) ?_)
 rintro _ rfl
 refine VO.ma rfl rfl rfl rfl ?_
 refine VO.nil ?_
 refine VC.sr ?_
 refine VO.mv rfl rfl rfl rfl ?_
 refine VO.val rfl rfl (OpV.neq rfl rfl rfl) ?_
 refine VO.nil ?_
 refine VC.cond rfl (fun h0b => ?_) (fun h0b => ?_)
 ·have h0 := h0b
  try simp only [qqT, qqF, qqN, qqM, qqL, qqE] at h0
  refine VC.sr ?_
  refine VO.mv rfl rfl rfl rfl ?_
  refine VO.ma rfl rfl rfl rfl ?_
  refine VO.nil ?_
  refine VC.ret ?_
  exact Exists.intro _ (And.intro (RetN.one Tryz.results172 (ResN.v rfl)) (by first | rw [faultF, if_pos h0] | rw [faultF, if_neg h0]))
 ·have h0 := h0b
  try simp only [qqT, qqF, qqN, qqM, qqL, qqE] at h0
  refine VC.skip ?_
  refine VC.sr ?_
  refine VO.mv rfl rfl rfl rfl ?_
  refine VO.op rfl (OpE.call rfl hB rfl Tryz.call170 rfl (SpecN.spec (line_CheckNeeds hl' hb')) ?_)
  rintro _ rfl
  refine VO.ma rfl rfl rfl rfl ?_
  refine VO.nil ?_
  refine VC.ret ?_
  exact Exists.intro _ (And.intro (RetN.one Tryz.results172 (ResN.v rfl)) (by first | rw [faultF, if_pos h0] | rw [faultF, if_neg h0]))
end Go.Proofs.YtaaokimiadfidaaGreatDoor
