/- Part 2 of a proof: the walks and laws that it needs. -/
import Derived.Test.YtemnnmohdpabhaaGreatDoorProg
import Derived.Lib.SliceRun
import Derived.Lib.AppendZerosOnto
import Derived.Lib.Overlaps
import Derived.Deep.QuietTactic
import Derived.BigQuiet
import Derived.Laws.StructEq
import Derived.MapKept
import Derived.Lib.Walk
import Derived.Shelf.SlIter.Nil
import Derived.Shelf.SortM.Plain
import Derived.Shelf.SortM.SortNone
import Derived.Ground.GgzProg
import Derived.Ground.SlgmProg
import Derived.StringKeys
import Derived.Laws.Bits64
import Derived.Test.YtemnnmohdpabhaaGreatDoorZL1
namespace Go.Proofs.YtemnnmohdpabhaaGreatDoor
open Go.RowKit
set_option linter.unusedVariables false
set_option linter.unusedSimpArgs false

theorem bl_irr : ∀ x : List UInt8, Op.bytesLess x x = false
 | [] => rfl
 | a :: x => by
  rw [Op.bytesLess, bl_irr x]
  have : ¬ a < a := by rw [UInt8.lt_iff_toNat_lt]; omega
  simp [this]
theorem bl_trans : ∀ {x y z : List UInt8}, Op.bytesLess x y = true → Op.bytesLess y z = true → Op.bytesLess x z = true
 | _, [], _, h, _ => by simp [Op.bytesLess] at h
 | _, _ :: _, [], _, h => by simp [Op.bytesLess] at h
 | [], _ :: _, _ :: _, _, _ => rfl
 | a :: x, b :: y, c :: z, h1, h2 => by
  simp only [Op.bytesLess, Bool.or_eq_true, decide_eq_true_eq, Bool.and_eq_true, beq_iff_eq, UInt8.lt_iff_toNat_lt] at h1 h2 ⊢
  rcases h1 with h1 | ⟨rfl, h1⟩
  ·rcases h2 with h2 | ⟨rfl, h2⟩
   ·exact .inl (by omega)
   ·exact .inl h1
  ·rcases h2 with h2 | ⟨rfl, h2⟩
   ·exact .inl h2
   ·exact .inr ⟨rfl, bl_trans h1 h2⟩
theorem bl_total : ∀ {x y : List UInt8}, Op.bytesLess x y = false → x ≠ y → Op.bytesLess y x = true
 | [], [], _, h => absurd rfl h
 | _ :: _, [], _, _ => rfl
 | [], _ :: _, h, _ => by simp [Op.bytesLess] at h
 | a :: x, b :: y, h, hne => by
  simp only [Op.bytesLess, Bool.or_eq_false_iff, decide_eq_false_iff_not, Bool.and_eq_false_iff, beq_eq_false_iff_ne, UInt8.lt_iff_toNat_lt, Bool.or_eq_true, decide_eq_true_eq, Bool.and_eq_true, beq_iff_eq] at h ⊢
  by_cases hab : a = b
  ·subst hab
   have h2 : Op.bytesLess x y = false := by rcases h.2 with h2 | h2; exact absurd rfl h2; exact h2
   exact .inr ⟨rfl, bl_total h2 fun e => hne (by rw [e])⟩
  ·left
   have : a.toNat ≠ b.toNat := fun e => hab (UInt8.toNat_inj.1 e)
   omega
theorem sLt_irr (p : ByteArray) : sLt p p = false := bl_irr _
theorem sLt_trans {p q r : ByteArray} (h1 : sLt p q = true) (h2 : sLt q r = true) : sLt p r = true := bl_trans h1 h2
theorem sLt_of_not {p q : ByteArray} (h : sLe p q = false) : sLt q p = true := by
 unfold sLe at h
 rw [Bool.or_eq_false_iff] at h
 refine bl_total h.1 fun e => ?_
 have : sEq p q = true := by unfold sEq; rw [e]; simp
 rw [this] at h; cases h.2
theorem sEq_refl (p : ByteArray) : sEq p p = true := sEq_eq.2 rfl
theorem sEq_comm (p q : ByteArray) : sEq p q = sEq q p := by
 rw [Bool.eq_iff_iff, sEq_eq, sEq_eq]; exact ⟨Eq.symm, Eq.symm⟩

def SortS (l : List ByteArray) : Prop := ∀ a b, a < b → b < l.length → sLt (l.getD a ByteArray.empty) (l.getD b ByteArray.empty) = true
theorem canF_sort {l : List ByteArray} (h : canF l = 0) : SortS l := by
 intro a b hab hb
 have hl : ¬ 1000 < l.length := fun e => by rw [canF_big e] at h; cases h
 rw [canF, if_neg hl] at h
 have step : ∀ i, 0 < i → i < l.length → sLt (l.getD (i - 1) ByteArray.empty) (l.getD i ByteArray.empty) = true := fun i hi hil => by
  have he := firstE_zero h i hil
  apply sLt_of_not
  rw [canE] at he
  split at he
  ·cases he
  ·split at he
   ·cases he
   ·rename_i hc
    cases hs : sLe (l.getD i ByteArray.empty) (l.getD (i - 1) ByteArray.empty) with
    | false => rfl
    | true => exact absurd (by rw [hs, decide_eq_true hi]; rfl) hc
 induction b with
 | zero => omega
 | succ b ih =>
  have h1 := step (b + 1) (by omega) hb
  rw [Nat.add_sub_cancel] at h1
  by_cases hab' : a = b
  ·subst hab'; exact h1
  ·exact sLt_trans (ih (by omega) (by omega)) h1
theorem canF_keys {l : List ByteArray} (h : canF l = 0) : l.length ≤ 1000 := by
 have hl : ¬ 1000 < l.length := fun e => by rw [canF_big e] at h; cases h
 omega

section
variable {xs : List ByteArray} {v : ByteArray} {i : Nat}
theorem bs_found (hi : i < xs.length) (h : sEq (xs.getD i ByteArray.empty) v = true) : xs.any (fun x => sEq v x) = true :=
 any_found (d := ByteArray.empty) hi (by rw [sEq_comm]; exact h)
theorem bs_not (hs : SortS xs) (h1 : ∀ k, k < i → sLt (xs.getD k ByteArray.empty) v = true) (h2 : ∀ k, i ≤ k → k < xs.length → sLt (xs.getD k ByteArray.empty) v = false) (hi : xs.length ≤ i ∨ sEq (xs.getD i ByteArray.empty) v = false) :
  xs.any (fun x => sEq v x) = false := any_none (d := ByteArray.empty) fun j hj => by
 cases h : sEq v (xs.getD j ByteArray.empty) with
 | false => rfl
 | true =>
  have e := sEq_eq.1 h
  by_cases hji : j < i
  ·have := h1 j hji
   rw [← e, sLt_irr] at this; cases this
  ·have hj' := h2 j (by omega) hj
   rcases hi with hi | hi
   ·omega
   ·by_cases hij : j = i
    ·subst hij; rw [← e, sEq_refl] at hi; cases hi
    ·have := hs i j (by omega) hj
     rw [← e] at this
     have h3 := h2 i (Nat.le_refl _) (by omega)
     rw [this] at h3; cases h3
theorem bs_lo (hs : SortS xs) {h : Nat} (hh : h < xs.length) (hlt : sLt (xs.getD h ByteArray.empty) v = true) : ∀ k, k < h + 1 → sLt (xs.getD k ByteArray.empty) v = true := fun k hk => by
 by_cases e : k = h
 ·rw [e]; exact hlt
 ·exact sLt_trans (hs k h (by omega) hh) hlt
theorem bs_hi (hs : SortS xs) {h : Nat} (hlt : sLt (xs.getD h ByteArray.empty) v = false) : ∀ k, h ≤ k → k < xs.length → sLt (xs.getD k ByteArray.empty) v = false := fun k hk hkl => by
 by_cases e : k = h
 ·rw [e]; exact hlt
 ·cases h4 : sLt (xs.getD k ByteArray.empty) v with
  | false => rfl
  | true => rw [sLt_trans (hs h k (by omega) hkl) h4] at hlt; cases hlt
end
set_option maxRecDepth 100000 in
theorem slices_isNaN_str {p : ByteArray}  :
  SpecN Tryz.prog 252 [avS p] (fun y => y = avB false) := by
 refine SpecN.of_VCN Tryz.func252 rfl Tryz.ntmps252 (Nle rfl) fun w A hB => ?_
 have hnew : True := trivial
 refine VC.sr ?_
 refine VO.ma rfl rfl rfl rfl ?_
 refine VO.nil ?_
 refine VC.sr ?_
 refine VO.mv rfl rfl rfl rfl ?_
 refine VO.mv rfl rfl rfl rfl ?_
 refine VO.val rfl rfl (OpV.sneq rfl rfl rfl) ?_
 refine VO.ma rfl rfl rfl rfl ?_
 refine VO.nil ?_
 refine VC.ret ?_
 exact Exists.intro _ (And.intro (RetN.one Tryz.results252 (ResN.v rfl)) (by rw [sEq_refl]; rfl))
set_option maxRecDepth 100000 in
theorem cmp_isNaN_str {p : ByteArray}  :
  SpecN Tryz.prog 272 [avS p] (fun y => y = avB false) := by
 refine SpecN.of_VCN Tryz.func272 rfl Tryz.ntmps272 (Nle rfl) fun w A hB => ?_
 have hnew : True := trivial
 refine VC.sr ?_
 refine VO.ma rfl rfl rfl rfl ?_
 refine VO.nil ?_
 refine VC.sr ?_
 refine VO.mv rfl rfl rfl rfl ?_
 refine VO.mv rfl rfl rfl rfl ?_
 refine VO.val rfl rfl (OpV.sneq rfl rfl rfl) ?_
 refine VO.ma rfl rfl rfl rfl ?_
 refine VO.nil ?_
 refine VC.ret ?_
 exact Exists.intro _ (And.intro (RetN.one Tryz.results272 (ResN.v rfl)) (by rw [sEq_refl]; rfl))
set_option maxRecDepth 100000 in
theorem cmp_Less_str {p q : ByteArray}  :
  SpecN Tryz.prog 198 [avS p, avS q] (fun y => y = avB (sLt p q)) := by
 refine SpecN.of_VCN Tryz.func198 rfl Tryz.ntmps198 (Nle rfl) fun w A hB => ?_
 have hnew : True := trivial
 refine VC.sr ?_
 refine VO.ma rfl rfl rfl rfl ?_
 refine VO.nil ?_
 refine VC.sr ?_
 refine VO.mv rfl rfl rfl rfl ?_
 refine VO.op rfl (OpE.call rfl hB rfl Tryz.call272 rfl (SpecN.spec (cmp_isNaN_str)) ?_)
 rintro _ rfl
 refine VO.mv rfl rfl rfl rfl ?_
 refine VO.opX rfl rfl rfl rfl rfl ?_
 refine VO.opX rfl rfl rfl rfl rfl ?_
 refine VO.opX rfl rfl rfl rfl rfl ?_
 refine VO.val rfl rfl (OpV.pickF rfl rfl rfl rfl rfl) ?_
 refine VO.mv rfl rfl rfl rfl ?_
 refine VO.opY rfl rfl rfl rfl rfl ?_
 refine OpE.val (W := NoB) (OpV.move (.inl rfl) rfl) rfl ?_
 refine VO.opY rfl rfl rfl rfl rfl ?_
 refine OpE.val (W := NoB) (OpV.move (.inl rfl) rfl) rfl ?_
 refine VO.opY rfl rfl rfl rfl rfl ?_
 refine OpE.val (W := NoB) (OpV.slss rfl rfl rfl) rfl ?_
 refine VO.val rfl rfl (OpV.pickF rfl rfl rfl rfl rfl) ?_
 refine VO.ma rfl rfl rfl rfl ?_
 refine VO.nil ?_
 refine VC.ret ?_
 exact Exists.intro _ (And.intro (RetN.one Tryz.results198 (ResN.v rfl)) (rfl))
set_option maxRecDepth 100000 in
theorem slices_BinarySearch_str {xs : List ByteArray} {v : ByteArray} (hl : xs.length ≤ 1000000000) (hs : SortS xs) :
  Spec Tryz.prog 174 [avStrs xs, avS v] (fun y => ∃ (n : Int), y = .tup [avI n, avB (xs.any fun x => sEq v x)]) := by
 refine Spec.of_VC Tryz.func174 rfl Tryz.ntmps174 (Nle rfl) fun w A hB => ?_
 have hnew : True := trivial
 refine VC.sr ?_
 refine VO.ma rfl rfl rfl rfl ?_
 refine VO.ma rfl rfl rfl rfl ?_
 refine VO.nil ?_
 refine VC.sr ?_
 refine VO.mv rfl rfl rfl rfl ?_
 refine VO.val rfl rfl (OpV.len_im rfl Tryz.underlying40 rfl) ?_
 refine VO.ma rfl rfl rfl rfl ?_
 refine VO.nil ?_
 refine VC.sr ?_
 refine VO.mv rfl rfl rfl rfl ?_
 refine VO.ma rfl rfl rfl rfl ?_
 refine VO.ma rfl rfl rfl rfl ?_
 refine VO.nil ?_
 refine VC.seq ?_
 refine VC.block ?_
 refine VC.loopK [] trivial ({p : Nat × Nat // (p.1 ≤ p.2 ∧ p.2 ≤ xs.length) ∧ (∀ k, k < p.1 → sLt (xs.getD k ByteArray.empty) v = true) ∧ (∀ k, p.2 ≤ k → k < xs.length → sLt (xs.getD k ByteArray.empty) v = false)}) (fun (iZ : {p : Nat × Nat // (p.1 ≤ p.2 ∧ p.2 ≤ xs.length) ∧ (∀ k, k < p.1 → sLt (xs.getD k ByteArray.empty) v = true) ∧ (∀ k, p.2 ≤ k → k < xs.length → sLt (xs.getD k ByteArray.empty) v = false)}) => match iZ with | ⟨⟨i, j⟩, ⟨hij, hj⟩, h1, h2⟩ => [(0, avStrs xs), (1, avS v), (6, avI xs.length), (7, avI (i : Int)), (8, avI (j : Int))]) (fun (iZ : {p : Nat × Nat // (p.1 ≤ p.2 ∧ p.2 ≤ xs.length) ∧ (∀ k, k < p.1 → sLt (xs.getD k ByteArray.empty) v = true) ∧ (∀ k, p.2 ≤ k → k < xs.length → sLt (xs.getD k ByteArray.empty) v = false)}) => match iZ with | ⟨⟨i, j⟩, ⟨hij, hj⟩, h1, h2⟩ => []) (fun (iZ : {p : Nat × Nat // (p.1 ≤ p.2 ∧ p.2 ≤ xs.length) ∧ (∀ k, k < p.1 → sLt (xs.getD k ByteArray.empty) v = true) ∧ (∀ k, p.2 ≤ k → k < xs.length → sLt (xs.getD k ByteArray.empty) v = false)}) => match iZ with | ⟨⟨i, j⟩, ⟨hij, hj⟩, h1, h2⟩ => 0) (fun (iZ : {p : Nat × Nat // (p.1 ≤ p.2 ∧ p.2 ≤ xs.length) ∧ (∀ k, k < p.1 → sLt (xs.getD k ByteArray.empty) v = true) ∧ (∀ k, p.2 ≤ k → k < xs.length → sLt (xs.getD k ByteArray.empty) v = false)}) => match iZ with | ⟨⟨i, j⟩, ⟨hij, hj⟩, h1, h2⟩ => j - i) ⟨(0, xs.length), ⟨by omega, by omega⟩, fun k hk => absurd hk (Nat.not_lt_zero k), fun k hk hk' => absurd hk' (by omega)⟩ (Le.mk hB [] ⟨rfl, rfl, rfl, rfl, rfl, trivial⟩ rfl rfl (Nat.le_refl _)) ?_
 rintro ⟨⟨i, j⟩, ⟨hij, hj⟩, h1, h2⟩
 show VC _ _ _ _ ⟨[(0, avStrs xs), (1, avS v), (6, avI xs.length), (7, avI (i : Int)), (8, avI (j : Int))] ++ [], [], 0⟩
 simp only at hij hj h1 h2
 refine VC.seq ?_
 refine VC.sr ?_
 refine VO.mv rfl rfl rfl rfl ?_
 refine VO.mv rfl rfl rfl rfl ?_
 refine VO.val rfl rfl (OpV.lss rfl rfl rfl) ?_
 refine VO.nil ?_
 refine VC.cond rfl (fun aH1b => ?_) (fun aH1b => ?_)
 ·have aH1 := aH1b
  try simp only [qqT, qqF, qqN, qqM, qqL, qqE] at aH1
  refine VC.skip ?_
  refine VC.block ?_
  refine VC.sr ?_
  refine VO.mv rfl rfl rfl rfl ?_
  refine VO.mv rfl rfl rfl rfl ?_
  refine VO.val rfl rfl (OpV.add rfl rfl rfl (by unfold fits; omega)) ?_
  refine VO.val rfl rfl (OpV.conv rfl Tryz.underlying3 Tryz.underlying160 rfl (IntWalk.u64_in _ (by omega))) ?_
  refine VO.val rfl rfl (OpV.shr1 rfl rfl rfl rfl (by omega)) ?_
  refine VO.val rfl rfl (OpV.conv rfl Tryz.underlying160 Tryz.underlying3 rfl (IntWalk.i64_in _ (by omega))) ?_
  refine VO.ma rfl rfl rfl rfl ?_
  refine VO.nil ?_
  refine VC.sr ?_
  refine VO.mv rfl rfl rfl rfl ?_
  refine VO.mv rfl rfl rfl rfl ?_
  refine VO.val rfl rfl (OpV.indexAddr_1 rfl Tryz.underlying40 Tryz.sizeOf9 rfl rfl (Int.toNat_of_nonneg (by omega)).symm (by omega)) ?_
  refine VO.val rfl rfl (OpV.load_at rfl hB OutW.no Tryz.isAgg9 rfl rfl) ?_
  refine VO.mv rfl rfl rfl rfl ?_
  refine VO.op rfl (OpE.call rfl hB rfl Tryz.call198 rfl (SpecN.spec (cmp_Less_str)) ?_)
  rintro _ rfl
  refine VO.nil ?_
  refine VC.cond rfl (fun hltb => ?_) (fun hltb => ?_)
  ·have hlt := hltb
   try simp only [qqT, qqF, qqN, qqM, qqL, qqE] at hlt
   refine VC.region ?_
   refine VO.mv rfl rfl rfl rfl ?_
   refine VO.val rfl rfl (OpV.add rfl rfl rfl (by unfold fits; omega)) ?_
   refine VO.ma rfl rfl rfl rfl ?_
   refine VO.nil ?_
   exact Exists.intro (⟨((((i : Int) + j) / 2).toNat + 1, j), ⟨by show _ + 1 ≤ _; omega, hj⟩, bs_lo hs (by omega) hlt, h2⟩) (And.intro (Le.mk hB [] ⟨rfl, rfl, rfl, (by first | rfl | exact congrArg (fun z => some (avI z)) (by omega)), (by first | rfl | exact congrArg (fun z => some (avI z)) (by omega)), trivial⟩ rfl rfl (Nat.le_refl _)) (by first | omega | (show _ < _; omega) | (simp only []; omega)))
  ·have hlt := hltb
   try simp only [qqT, qqF, qqN, qqM, qqL, qqE] at hlt
   refine VC.region ?_
   refine VO.mv rfl rfl rfl rfl ?_
   refine VO.ma rfl rfl rfl rfl ?_
   refine VO.nil ?_
   exact Exists.intro (⟨(i, (((i : Int) + j) / 2).toNat), ⟨by show _ ≤ _; omega, by show _ ≤ _; omega⟩, h1, fun k hk => bs_hi hs hlt k hk⟩) (And.intro (Le.mk hB [] ⟨rfl, rfl, rfl, (by first | rfl | exact congrArg (fun z => some (avI z)) (by omega)), (by first | rfl | exact congrArg (fun z => some (avI z)) (by omega)), trivial⟩ rfl rfl (Nat.le_refl _)) (by first | omega | (show _ < _; omega) | (simp only []; omega)))
 ·have aH1 := aH1b
  try simp only [qqT, qqF, qqN, qqM, qqL, qqE] at aH1
  refine VC.exit ?_
  refine VC.sr ?_
  refine VO.mv rfl rfl rfl rfl ?_
  refine VO.mv rfl rfl rfl rfl ?_
  refine VO.mv rfl rfl rfl rfl ?_
  refine VO.val rfl rfl (OpV.lss rfl rfl rfl) ?_
  refine VO.mv rfl rfl rfl rfl ?_
  refine VO.opG rfl rfl rfl rfl (fun aK2b => ?_) (fun aK2b => ?_)
  ·replace aK2b : _ = true := aK2b
   have aK2 := aK2b
   try simp only [qqT, qqF, qqN, qqM, qqL, qqE] at aK2
   refine OpE.val (W := NoB) (OpV.move (.inl rfl) rfl) rfl ?_
   refine VO.opY rfl rfl rfl rfl aK2b ?_
   refine OpE.val (W := NoB) (OpV.move (.inl rfl) rfl) rfl ?_
   refine VO.opY rfl rfl rfl rfl aK2b ?_
   refine OpE.val (W := NoB) (OpV.indexAddr_1 rfl Tryz.underlying40 Tryz.sizeOf9 rfl rfl rfl (by omega)) rfl ?_
   refine VO.opY rfl rfl rfl rfl aK2b ?_
   refine OpE.val (W := NoB) (OpV.load_at rfl hB OutW.no Tryz.isAgg9 rfl rfl) rfl ?_
   refine VO.opY rfl rfl rfl rfl aK2b ?_
   refine OpE.val (W := NoB) (OpV.move (.inl rfl) rfl) rfl ?_
   refine VO.opY rfl rfl rfl rfl aK2b ?_
   refine OpE.val (W := NoB) (OpV.seql rfl rfl rfl) rfl ?_
   refine VO.opY rfl rfl rfl rfl aK2b ?_
   refine OpE.val (W := NoB) (OpV.move (.inl rfl) rfl) rfl ?_
   refine VO.opG rfl rfl rfl rfl (fun aK3b => ?_) (fun aK3b => ?_)
   ·replace aK3b : _ = false := aK3b
    have aK3 := aK3b
    try simp only [qqT, qqF, qqN, qqM, qqL, qqE] at aK3
    refine OpE.val (W := NoB) (OpV.move (.inl rfl) rfl) rfl ?_
    refine VO.opY rfl rfl rfl rfl aK3b ?_
    refine OpE.val (W := NoB) (OpV.move (.inl rfl) rfl) rfl ?_
    refine VO.opY rfl rfl rfl rfl aK3b ?_
    refine OpE.val (W := NoB) (OpV.indexAddr_1 rfl Tryz.underlying40 Tryz.sizeOf9 rfl rfl rfl (by omega)) rfl ?_
    refine VO.opY rfl rfl rfl rfl aK3b ?_
    refine OpE.val (W := NoB) (OpV.load_at rfl hB OutW.no Tryz.isAgg9 rfl rfl) rfl ?_
    refine VO.opY rfl rfl rfl rfl aK3b ?_
    refine OpE.call rfl hB rfl Tryz.call252 rfl (SpecN.spec (slices_isNaN_str)) ?_
    rintro _ rfl
    refine VO.opY rfl rfl rfl rfl aK3b ?_
    refine OpE.val (W := NoB) (OpV.move (.inl rfl) rfl) rfl ?_
    refine VO.opX rfl rfl rfl rfl rfl ?_
    refine VO.opX rfl rfl rfl rfl rfl ?_
    refine VO.opY rfl rfl rfl rfl aK3b ?_
    refine OpE.val (W := NoB) (OpV.pickF rfl rfl rfl rfl rfl) rfl ?_
    refine VO.opY rfl rfl rfl rfl aK2b ?_
    refine OpE.val (W := NoB) (OpV.pickF rfl rfl rfl rfl aK3b) rfl ?_
    refine VO.val rfl rfl (OpV.pickT rfl rfl rfl rfl aK2b) ?_
    refine VO.ma rfl rfl rfl rfl ?_
    refine VO.ma rfl rfl rfl rfl ?_
    refine VO.nil ?_
    refine VC.ret ?_
    exact Exists.intro _ (And.intro (RetV.two Tryz.results174 (ResV.tmp rfl) (ResV.tmp rfl)) (by first | exact ⟨(i : Int), by rw [bs_found (i := i) (by omega) (by assumption)]⟩ | exact ⟨(i : Int), by rw [bs_not (i := i) hs h1 (fun k hk => h2 k (by omega)) (.inl (by omega))]⟩ | exact ⟨(i : Int), by rw [bs_not (i := i) hs h1 (fun k hk => h2 k (by omega)) (.inr (by assumption))]⟩))
   ·replace aK3b : _ = true := aK3b
    have aK3 := aK3b
    try simp only [qqT, qqF, qqN, qqM, qqL, qqE] at aK3
    refine VO.opX rfl rfl rfl rfl aK3b ?_
    refine VO.opX rfl rfl rfl rfl aK3b ?_
    refine VO.opX rfl rfl rfl rfl aK3b ?_
    refine VO.opX rfl rfl rfl rfl aK3b ?_
    refine VO.opX rfl rfl rfl rfl aK3b ?_
    refine VO.opU rfl rfl rfl rfl ?_
    refine VO.opU rfl rfl rfl rfl ?_
    refine VO.opX rfl rfl rfl rfl aK3b ?_
    refine VO.opY rfl rfl rfl rfl aK2b ?_
    refine OpE.val (W := NoB) (OpV.pickT rfl rfl rfl rfl aK3b) rfl ?_
    refine VO.val rfl rfl (OpV.pickT rfl rfl rfl rfl aK2b) ?_
    refine VO.ma rfl rfl rfl rfl ?_
    refine VO.ma rfl rfl rfl rfl ?_
    refine VO.nil ?_
    refine VC.ret ?_
    exact Exists.intro _ (And.intro (RetV.two Tryz.results174 (ResV.tmp rfl) (ResV.tmp rfl)) (by first | exact ⟨(i : Int), by rw [bs_found (i := i) (by omega) (by assumption)]⟩ | exact ⟨(i : Int), by rw [bs_not (i := i) hs h1 (fun k hk => h2 k (by omega)) (.inl (by omega))]⟩ | exact ⟨(i : Int), by rw [bs_not (i := i) hs h1 (fun k hk => h2 k (by omega)) (.inr (by assumption))]⟩))
  ·replace aK2b : _ = false := aK2b
   have aK2 := aK2b
   try simp only [qqT, qqF, qqN, qqM, qqL, qqE] at aK2
   refine VO.opX rfl rfl rfl rfl aK2b ?_
   refine VO.opX rfl rfl rfl rfl aK2b ?_
   refine VO.opX rfl rfl rfl rfl aK2b ?_
   refine VO.opX rfl rfl rfl rfl aK2b ?_
   refine VO.opX rfl rfl rfl rfl aK2b ?_
   refine VO.opX rfl rfl rfl rfl aK2b ?_
   refine VO.opU rfl rfl rfl rfl ?_
   refine VO.opU rfl rfl rfl rfl ?_
   refine VO.opU rfl rfl rfl rfl ?_
   refine VO.opU rfl rfl rfl rfl ?_
   refine VO.opU rfl rfl rfl rfl ?_
   refine VO.opU rfl rfl rfl rfl ?_
   refine VO.opU rfl rfl rfl rfl ?_
   refine VO.opU rfl rfl rfl rfl ?_
   refine VO.opU rfl rfl rfl rfl ?_
   refine VO.opX rfl rfl rfl rfl aK2b ?_
   refine VO.val rfl rfl (OpV.pickF rfl rfl rfl rfl aK2b) ?_
   refine VO.ma rfl rfl rfl rfl ?_
   refine VO.ma rfl rfl rfl rfl ?_
   refine VO.nil ?_
   refine VC.ret ?_
   exact Exists.intro _ (And.intro (RetV.two Tryz.results174 (ResV.tmp rfl) (ResV.tmp rfl)) (by first | exact ⟨(i : Int), by rw [bs_found (i := i) (by omega) (by assumption)]⟩ | exact ⟨(i : Int), by rw [bs_not (i := i) hs h1 (fun k hk => h2 k (by omega)) (.inl (by omega))]⟩ | exact ⟨(i : Int), by rw [bs_not (i := i) hs h1 (fun k hk => h2 k (by omega)) (.inr (by assumption))]⟩))
end Go.Proofs.YtemnnmohdpabhaaGreatDoor
namespace Go.Proofs.YtemnnmohdpabhaaGreatDoor
open Go.RowKit
set_option linter.unusedVariables false
set_option linter.unusedSimpArgs false
def cmpB (a b : ByteArray) : Int := Lib.compareBytes a.data.toList b.data.toList
theorem strings_Compare_S {a b : ByteArray} : SpecN Tryz.prog 77 [avS a, avS b] (fun y => y = avI (cmpB a b)) := by
 intro w us ha
 rw [argsV2 ha]
 refine (Tryz.strings_Compare a b w).mono ?_
 rintro e w' ⟨rfl, rfl⟩
 exact ⟨_, _, rfl, rfl, .v _, Chg.refl _ _, trivial⟩
theorem bits_Len_S {x : Int} (h0 : 0 ≤ x) (h1 : x ≤ 18446744073709551615) : SpecN Tryz.prog 104 [.v (.int .u64 x)] (fun y => ∃ k : Int, y = avI k) := by
 intro w us ha
 rw [args1 ha]
 refine (Tryz.bits_Len x w h0 h1).mono ?_
 rintro e w' ⟨rfl, rfl⟩
 exact ⟨_, _, ⟨_, rfl⟩, rfl, .v _, Chg.refl _ _, trivial⟩

theorem cmp_lt : ∀ x y : List UInt8, decide (Lib.compareBytes x y < 0) = Op.bytesLess x y
 | [], [] => rfl
 | [], _ :: _ => rfl
 | _ :: _, [] => rfl
 | a :: x, b :: y => by
  unfold Lib.compareBytes Op.bytesLess
  have ih := cmp_lt x y
  by_cases h1 : a < b
  ·simp [h1]
  ·by_cases h2 : b < a
   ·simp [h1, h2]
    intro e; subst e; exact absurd h2 (UInt8.lt_irrefl _)
   ·have e : a = b := UInt8.le_antisymm (UInt8.not_lt.1 h2) (UInt8.not_lt.1 h1)
    subst e
    simp [UInt8.lt_irrefl]
    simpa using ih
theorem cmpB_lt (a b : ByteArray) : decide (cmpB a b < 0) = sLt a b := by
 unfold sLt
 rw [Lib.toList_data, Lib.toList_data]
 exact cmp_lt _ _
theorem sLt_asym {a b : ByteArray} (h : sLt a b = true) : sLt b a = false := by
 cases e : sLt b a with
 | false => rfl
 | true => have := sLt_trans h e; rw [sLt_irr] at this; cases this
theorem sLt_total {a b : ByteArray} (h : sLt a b = false) (hne : a ≠ b) : sLt b a = true := by
 unfold sLt at h ⊢
 rw [Lib.toList_data, Lib.toList_data] at h ⊢
 exact bl_total h fun e => hne (by cases a; cases b; simpa using e)
section
variable {α : Type} {k : α → ByteArray}
end
end Go.Proofs.YtemnnmohdpabhaaGreatDoor
namespace Go.Proofs.YtemnnmohdpabhaaGreatDoor
open Go.RowKit
set_option linter.unusedVariables false
set_option linter.unusedSimpArgs false
def errsF (xs : List Int) : Int := match xs.find? (fun x => decide (x ≠ 0)) with | some x => x | none => 0
theorem errsF_at {xs : List Int} {q : Nat} (hq : q < xs.length) (hn : ∀ j, j < q → xs.getD j 0 = 0) (h : xs.getD q 0 ≠ 0) : errsF xs = xs.getD q 0 := by
 induction xs generalizing q with
 | nil => simp at hq
 | cons x r ih =>
  cases q with
  | zero => simp at h; simp [errsF, h]
  | succ q =>
   have h0 := hn 0 (by omega)
   simp at h0
   have := ih (q := q) (by simpa using hq) (fun j hj => by simpa using hn (j + 1) (by omega)) (by simpa using h)
   simpa [errsF, h0] using this
theorem errsF_none {xs : List Int} (hn : ∀ j, j < xs.length → xs.getD j 0 = 0) : errsF xs = 0 := by
 induction xs with
 | nil => rfl
 | cons x r ih =>
  have h0 := hn 0 (by simp)
  simp at h0
  have := ih (fun j hj => by simpa using hn (j + 1) (by simpa using hj))
  simpa [errsF, h0] using this
theorem Le.lits {B : Bs} {s : St'} {t n : Nat} {xs : List Int} (hn : n = xs.length) (ht : look s.sl t = some (.im n 1 fun j => (intsL xs).getD j .any)) : Le B s ⟨(t, avInts xs) :: s.sl, s.hp, s.k⟩ := Le.recast ht fun w Z u h => Rep.ints hn h
end Go.Proofs.YtemnnmohdpabhaaGreatDoor
namespace Go.Proofs.YtemnnmohdpabhaaGreatDoor
open Go.RowKit
set_option linter.unusedVariables false
set_option linter.unusedSimpArgs false

section
variable {P : Program} {B : Bs} {W : Nat → Prop} {s : St'} {o : Oper} {K : St' → Prop} {a : Act} {w w' : World} {Q : Exit → St' → Prop}

def SrcP (P : Program) (B : Bs) (s : St') (x : Operand) (m sz : Nat) (F : Nat → AV) : Prop :=
 ∀ a w, R B s a w → ∃ (ad : Option Addr) (cap : Nat) (us : Nat → Value), a.eval x = .slice ad m cap ∧ (ad = none → m = 0 ∧ cap = 0) ∧ ∀ x0, ad = some x0 → ∀ j, j < m * sz → w.cell? (x0.add j) = some (us j) ∧ Rep w (Zn B s.hp w) (F j) (us j)
theorem SrcP.im {x : Operand} {m sz : Nat} {F : Nat → AV} (hx : evO s x = some (.im m sz F)) : SrcP P B s x m sz F := fun a w hr => by
 have := hr.ev hx
 generalize hv : a.eval x = v at this
 cases this with
 | nil => exact ⟨none, 0, fun _ => undef, rfl, fun _ => ⟨rfl, rfl⟩, fun x0 h => (by cases h)⟩
 | im m sz F b off cap c e u hZ h1 h2 hb hc hr' => exact ⟨some ⟨b, off, none⟩, cap, u, rfl, fun h => (by cases h), fun x0 h j hj => by
   cases h
   exact ⟨by rw [Addr.add_lit]; simpa [World.cell?, hb] using hc j hj, hr' j hj⟩⟩
theorem SrcP.row {x : Operand} {i n sz : Nat} {u : Value} {cs : List AV} {ty : TypeId} (hx : evO s x = some (.v u)) (hi : s.hp[i]? = some (.row u n sz cs ty)) : SrcP P B s x n sz (fun j => cs.getD j .any) := fun a w hr => by
 rw [hr.evv hx]
 obtain ⟨h0, ⟨rfl, rfl⟩ | ⟨g, cap, c, rfl, h1, h2, h3, h4, h5⟩⟩ := hr.blocks _ (List.mem_of_getElem? hi)
 ·exact ⟨none, 0, fun _ => undef, rfl, fun _ => ⟨rfl, rfl⟩, fun x0 h => (by cases h)⟩
 ·refine ⟨_, cap, fun j => c.getD j undef, rfl, fun h => (by cases h), fun x0 h j hj => ?_⟩
  cases h
  obtain ⟨v, k1, k2⟩ := h5 j (by omega)
  rw [Addr.add_lit, Nat.zero_add]
  have e : c.getD j undef = v := by rw [Array.getD_eq_getD_getElem?, k1]; rfl
  refine ⟨by simp only [e]; simpa [World.cell?, h3] using k1, ?_⟩
  simp only [e]
  rw [List.getD_eq_getElem?_getD, List.getElem?_eq_getElem (by omega)]
  exact k2
theorem SrcP.box {x : Operand} {i n sz g off cap : Nat} {o' : Own'} (hx : evO s x = some (.v (.slice (some ⟨g, off, none⟩) n cap))) (hi : s.hp[i]? = some (.box g o')) (hl : off + n * sz ≤ o'.cs.length) : SrcP P B s x n sz (fun j => o'.cs.getD (off + j) .any) := fun a w hr => by
 rw [hr.evv hx]
 obtain ⟨c, h1, h2, h3, h4⟩ := hr.blocks _ (List.mem_of_getElem? hi)
 refine ⟨_, cap, fun j => c.getD (off + j) undef, rfl, fun h => (by cases h), fun x0 h j hj => ?_⟩
 cases h
 obtain ⟨v, k1, k2⟩ := h4 (off + j) (by omega)
 rw [Addr.add_lit]
 have e : c.getD (off + j) undef = v := by rw [Array.getD_eq_getD_getElem?, k1]; rfl
 refine ⟨by simp only [e]; simpa [World.cell?, h1] using k1, ?_⟩
 simp only [e]
 rw [List.getD_eq_getElem?_getD, List.getElem?_eq_getElem (by omega)]
 exact k2

theorem R.splice (hB : B.Ok) (hr : R B s a w) {i g off : Nat} {o' : Own'} {c : Array Value} {l : List AV} {vs : List Value} (hi : s.hp[i]? = some (.box g o')) (hg : w.heap[g]? = some (.cells c o'.ty (0, 0))) (hl : vs.length = l.length)
  (hv : ∀ j, (h : j < l.length) → Rep w (Zn B s.hp w) l[j] (vs.getD j undef)) (hfit : off + l.length ≤ o'.cs.length) :
  R B ⟨s.sl, s.hp.set i (.box g ⟨o'.cs.take off ++ l ++ o'.cs.drop (off + l.length), o'.ty, o'.tot⟩), s.k⟩ a (w.setRow g (c.toList.take off ++ vs ++ c.toList.drop (off + vs.length)).toArray) := by
 have hm := List.mem_of_getElem? hi
 obtain ⟨c0, h1, h2, h3, h4⟩ := hr.blocks _ hm
 have hcc : c0 = c := by rw [hg] at h1; simp at h1; exact h1.symm
 subst hcc
 generalize hc' : (c0.toList.take off ++ vs ++ c0.toList.drop (off + vs.length)).toArray = c'
 generalize hcs' : o'.cs.take off ++ l ++ o'.cs.drop (off + l.length) = cs'
 have hsz' : c'.size = c0.size := by
  rw [← hc']
  simp only [List.size_toArray, List.length_append, List.length_take, List.length_drop, Array.length_toList]
  omega
 have hlen' : cs'.length = o'.cs.length := by
  rw [← hcs']
  simp only [List.length_append, List.length_take, List.length_drop]
  omega
 have hg' := setRow_heap w g c0 c' o'.ty (0, 0) h1
 refine hr.set hB hi (e' := .box g ⟨cs', o'.ty, o'.tot⟩) (w' := w.setRow g c') (chg_setRow w g c') (.inl rfl) ⟨c', hg', by rw [hsz', h2], by show cs'.length ≤ _; rw [hlen']; exact h3, fun q hq => ?_⟩
 have hz : ∀ b, Zn B s.hp w b → b < w.heap.size → (w.setRow g c').heap[b]? = w.heap[b]? ∧ Zn B (s.hp.set i (.box g ⟨cs', o'.ty, o'.tot⟩)) (w.setRow g c') b := fun b hb hbl => by
  refine ⟨setRow_other w g b c' fun e => hb.2.1 _ hm (by rw [e]; rfl), by simp [World.setRow]; exact hbl, fun p hp => ?_, hb.2.2⟩
  rcases List.mem_or_eq_of_mem_set hp with hp | hp
  ·exact hb.2.1 p hp
  ·subst hp; exact hb.2.1 (.box g o') hm
 have hq' : q < o'.cs.length := by rw [← hlen']; exact hq
 have key : ∀ (v : AV) (u : Value), cs'[q]? = some v → c'.toList[q]? = some u → Rep w (Zn B s.hp w) v u → ∃ u, c'[q]? = some u ∧ Rep (w.setRow g c') (Zn B (s.hp.set i (.box g ⟨cs', o'.ty, o'.tot⟩)) (w.setRow g c')) cs'[q] u := fun v u e1 e2 e3 => by
  refine ⟨u, by rw [← Array.getElem?_toList]; exact e2, ?_⟩
  have : cs'[q] = v := by
   rw [List.getElem?_eq_getElem hq] at e1
   exact Option.some.inj e1
  rw [this]
  exact e3.keep hz
 by_cases hin : off ≤ q ∧ q < off + l.length
 ·refine key (l[q - off]'(by omega)) (vs.getD (q - off) undef) ?_ ?_ (hv _ _)
  ·rw [← hcs', List.append_assoc, List.getElem?_append_right (by simp; omega), List.getElem?_append_left (by simp; omega)]
   simp only [List.length_take]
   rw [show q - min off o'.cs.length = q - off by omega]
   exact List.getElem?_eq_getElem _
  ·rw [← hc']
   simp only
   rw [List.append_assoc, List.getElem?_append_right (by simp; omega), List.getElem?_append_left (by simp; omega)]
   simp only [List.length_take, Array.length_toList]
   rw [show q - min off c0.size = q - off by omega, List.getD_eq_getElem?_getD, List.getElem?_eq_getElem (by omega)]
   rfl
 ·obtain ⟨x, k1, k2⟩ := h4 q hq'
  refine key _ x ?_ ?_ k2
  ·rw [← hcs']
   by_cases hlt : q < off
   ·rw [List.append_assoc, List.getElem?_append_left (by simp; omega), List.getElem?_take, if_pos hlt]
    exact List.getElem?_eq_getElem _
   ·rw [List.getElem?_append_right (by simp; omega), List.getElem?_drop]
    simp only [List.length_append, List.length_take]
    rw [show off + l.length + (q - (min off o'.cs.length + l.length)) = q by omega]
    exact List.getElem?_eq_getElem _
  ·rw [← hc']
   simp only
   rw [← Array.getElem?_toList] at k1
   by_cases hlt : q < off
   ·rw [List.append_assoc, List.getElem?_append_left (by simp; omega), List.getElem?_take, if_pos hlt]
    exact k1
   ·rw [List.getElem?_append_right (by simp; omega), List.getElem?_drop]
    simp only [List.length_append, List.length_take, Array.length_toList]
    rw [show off + vs.length + (q - (min off c0.size + vs.length)) = q by omega]
    exact k1

theorem OpE.copy {x y : Operand} {T T2 e i m n sz g off cap c : Nat} {o' : Own'} {F : Nat → AV} {cs' : List AV} (ho : o.op = .call { callee := .builtin .copy, args := #[x, y], argTypes := #[T, T2] }) (hB : B.Ok) (hd : okd B.nt o.dst = true)
  (hu : P.underlying T = some (.slice e)) (hsz : ∀ w, (sizeOf e).run P w = .ok sz w) (hx : evO s x = some (.v (.slice (some ⟨g, off, none⟩) n cap))) (hi : s.hp[i]? = some (.box g o')) (hy : SrcP P B s y m sz F)
  (hc : c = min m n) (hone : ∀ j, j < c * sz → (F j).one = true) (hfit : off + c * sz ≤ o'.cs.length) (hcs : o'.cs.take off ++ tab (c * sz) F ++ o'.cs.drop (off + c * sz) = cs') (hW : W g)
  (hK : K ((St'.mk s.sl (s.hp.set i (.box g ⟨cs', o'.ty, o'.tot⟩)) s.k).put o.dst (.v (.int .i64 c)))) : OpE P B W s o K := by
 intro a w hr next Qx hn
 obtain ⟨ad, cap2, us, hev, hnil, hsrc⟩ := hy a w hr
 obtain ⟨c0, h1, h2, h3, h4⟩ := hr.blocks _ (List.mem_of_getElem? hi)
 generalize hvs : (List.range (c * sz)).map us = vs
 have hvl : vs.length = c * sz := by rw [← hvs]; simp
 have hvg : ∀ j, j < c * sz → vs[j]? = some (us j) := fun j hj => by rw [← hvs]; simp [hj]
 have hcm : c * sz ≤ m * sz := Nat.mul_le_mul_right _ (by omega)
 have hsp := hr.splice hB (off := off) (l := tab (c * sz) F) (vs := vs) hi h1 (by rw [tab_len, hvl]) (fun j hj => by
  rw [tab_len] at hj
  rw [tab_get, List.getD_eq_getElem?_getD, hvg j hj]
  cases ad with
  | none => have := (hnil rfl).1; subst this; simp at hcm; omega
  | some x0 => exact (hsrc x0 rfl j (by omega)).2) (by rw [tab_len]; exact hfit)
 rw [tab_len, hcs] at hsp
 have hst := run_storeCells_at P g off o'.ty vs 0 c0 w h1 (by rw [hvl]; omega) (fun v hv => by
  obtain ⟨j, hj, rfl⟩ := List.mem_iff_getElem.1 hv
  have hj' : j < c * sz := by omega
  have := hvg j hj'
  rw [List.getElem?_eq_getElem hj] at this
  rw [Option.some.inj this]
  cases ad with
  | none => have := (hnil rfl).1; subst this; simp at hcm; omega
  | some x0 => exact (hsrc x0 rfl j (by omega)).2.oneC (hone j hj'))
 simp only [Nat.add_zero] at hst
 have hfc : (Builtin.firstCells sz c (.slice ad m cap2)).run P w = .ok vs.toArray w := by
  cases ad with
  | none =>
   have := (hnil rfl).1
   subst this
   have : vs = [] := List.eq_nil_of_length_eq_zero (by rw [hvl]; simp at hcm; omega)
   subst this
   rfl
  | some x0 =>
   have hl := run_loadCells_list (P := P) w x0 vs (fun j v hj => by
    have hj' : j < c * sz := by have := (List.getElem?_eq_some_iff.1 hj).1; omega
    rw [hvg j hj'] at hj
    cases hj
    exact (hsrc x0 rfl j (by omega)).1)
   rw [hvl] at hl
   exact hl
 have hmn : Nat.min m n = c := hc.symm
 have hrun : (Builtin.copy_ #[T, T2] o.type #[.slice (some ⟨g, off, none⟩) n cap, .slice ad m cap2]).run P w = .ok (goInt c) (w.setRow g (c0.toList.take off ++ vs ++ c0.toList.drop (off + vs.length)).toArray) := by
  simp only [Builtin.copy_, List.getElem?_toArray, List.getElem?_cons_zero, List.getElem?_cons_succ, run_underlying hu, Builtin.lenOf, hsz, Sem.run_bind, Sem.run_pure, Result.andThen_ok, hmn, hfc, List.toList_toArray, hst]
 unfold Oper.wp
 simp only [execOp, ho, resolve, invoke, builtin, List.map_toArray, List.map_cons, List.map_nil, hr.evv hx, hev, Sem.run_bind, Sem.run_pure, Result.andThen_ok, hrun]
 exact hn _ _ _ hK (hsp.put _ hd _ _ (.v _)) ((chg_setRow w g _).mono fun b _ h => .inr (by cases h; exact hW))

theorem R.swap (hr : R B s a w) {i : Nat} {e e' : Ent} (hi : s.hp[i]? = some e) (hblk : e'.blk = e.blk) (hE : ∀ Z, EntR w Z e → EntR w Z e') : R B ⟨s.sl, s.hp.set i e', s.k⟩ a w := by
 have hil := (List.getElem?_eq_some_iff.1 hi).1
 have hm : ∀ (j : Nat) (p : Ent), (s.hp.set i e')[j]? = some p → ∃ p', s.hp[j]? = some p' ∧ p'.blk = p.blk ∧ (p' = p ∨ (p' = e ∧ p = e')) := fun j p hp => by
  by_cases h : i = j
  ·subst h
   rw [List.getElem?_set_self hil] at hp
   cases hp
   exact ⟨e, hi, hblk.symm, .inr ⟨rfl, rfl⟩⟩
  ·rw [List.getElem?_set_ne h] at hp
   exact ⟨p, hp, rfl, .inl rfl⟩
 have hz : ∀ b, Zn B s.hp w b → Zn B (s.hp.set i e') w b := fun b hb => ⟨hb.1, fun q hq => by
  obtain ⟨j, hj⟩ := List.mem_iff_getElem?.1 hq
  obtain ⟨q', r1, r2, _⟩ := hm j q hj
  rw [← r2]; exact hb.2.1 q' (List.mem_of_getElem? r1), hb.2.2⟩
 refine ⟨fun t x hx => (hr.slots t x hx).keep fun b hb _ => ⟨rfl, hz b hb⟩, hr.size, hr.defs, fun p hp => ?_, ?_, hr.chg, fun p hp g' hg => ?_, hr.res⟩
 ·obtain ⟨j, hj⟩ := List.mem_iff_getElem?.1 hp
  obtain ⟨p', k1, k2, k3⟩ := hm j p hj
  have hE1 := hr.blocks p' (List.mem_of_getElem? k1)
  rcases k3 with rfl | ⟨rfl, rfl⟩
  ·exact hE1.keep (fun b hb _ => ⟨rfl, hz b hb⟩) fun _ _ => rfl
  ·exact (hE _ hE1).keep (fun b hb _ => ⟨rfl, hz b hb⟩) fun _ _ => rfl
 ·refine Apart.of fun j1 j2 p q hij hp hq g' hg1 hg2 => ?_
  obtain ⟨p', k1, k2, _⟩ := hm j1 p hp
  obtain ⟨q', r1, r2, _⟩ := hm j2 q hq
  exact hr.nodup.get k1 r1 (by omega) (k2.trans hg1) (r2.trans hg2)
 ·obtain ⟨j, hj⟩ := List.mem_iff_getElem?.1 hp
  obtain ⟨p', k1, k2, _⟩ := hm j p hj
  exact hr.own p' (List.mem_of_getElem? k1) g' (k2.trans hg)
theorem OpE.clear {x : Operand} {T e i n sz g off cap : Nat} {o' : Own'} {z : Value} (ho : o.op = .call { callee := .builtin .clear, args := #[x], argTypes := #[T] }) (hB : B.Ok) (hd : okd B.nt o.dst = true)
  (hu : P.underlying T = some (.slice e)) (hz : ∀ w, (zeroValue e).run P w = .ok z w) (hzs : z.cells.size = sz) (hz1 : ∀ v ∈ z.cells.toList, v.oneCell' = true) (hx : evO s x = some (.v (.slice (some ⟨g, off, none⟩) n cap))) (hi : s.hp[i]? = some (.box g o'))
  (hfit : off + n * sz ≤ o'.cs.length) (hW : W g)
  (hK : K ((St'.mk s.sl (s.hp.set i (.box g ⟨o'.cs.take off, o'.ty, o'.tot⟩)) s.k).put o.dst (.tup []))) : OpE P B W s o K := by
 intro a w hr next Qx hn
 obtain ⟨c0, h1, h2, h3, h4⟩ := hr.blocks _ (List.mem_of_getElem? hi)
 generalize hvs : (Builtin.zeroCells z.cells n).toList = vs
 have hvl : vs.length = n * sz := by rw [← hvs, Array.length_toList, size_zeroCells, hzs]
 have hvone : ∀ v ∈ vs, v.oneCell' = true := fun v hv => by
  rw [← hvs] at hv
  simp only [Builtin.zeroCells, Array.toList_map, List.mem_map] at hv
  obtain ⟨j, hj, rfl⟩ := hv
  by_cases hzz : z.cells.size = 0
  ·have : vs.length = 0 := by rw [hvl, ← hzs, hzz, Nat.mul_zero]
   have h0 : (Array.range (n * z.cells.size)).toList = [] := by simp [hzz]
   rw [h0] at hj; cases hj
  ·have hlt : j % z.cells.size < z.cells.size := Nat.mod_lt _ (by omega)
   rw [getElem!_pos z.cells _ hlt]
   exact hz1 _ (by simp)
 have hsp := hr.splice hB (off := off) (l := vs.map .v) (vs := vs) hi h1 (by simp) (fun j hj => by
  simp at hj
  rw [List.getElem_map, List.getD_eq_getElem?_getD, List.getElem?_eq_getElem hj]
  exact .v _) (by rw [List.length_map, hvl]; exact hfit)
 have hst := run_storeCells_at P g off o'.ty vs 0 c0 w h1 (by rw [hvl]; omega) hvone
 simp only [Nat.add_zero] at hst
 have hil := (List.getElem?_eq_some_iff.1 hi).1
 have hsh := hsp.swap (i := i) (e := .box g ⟨o'.cs.take off ++ vs.map .v ++ o'.cs.drop (off + (vs.map AV.v).length), o'.ty, o'.tot⟩) (e' := .box g ⟨o'.cs.take off, o'.ty, o'.tot⟩) (by simp [hil]) rfl (fun Z hE => by
  obtain ⟨c, e1, e2, e3, e4⟩ := hE
  refine ⟨c, e1, e2, by simp only at e3 ⊢; simp only [List.length_append, List.length_take] at e3 ⊢; omega, fun q hq => ?_⟩
  have hq' : q < off ∧ q < o'.cs.length := by simp at hq; omega
  obtain ⟨u, r1, r2⟩ := e4 q (by simp; omega)
  refine ⟨u, r1, ?_⟩
  simp only at r2 ⊢
  rw [List.getElem_append_left (by simp; omega), List.getElem_append_left (by simp; omega)] at r2
  exact r2)
 simp only [List.set_set] at hsh
 have hrun : (Builtin.clear_ #[T] o.type #[.slice (some ⟨g, off, none⟩) n cap]).run P w = .ok (.tuple #[]) (w.setRow g (c0.toList.take off ++ vs ++ c0.toList.drop (off + vs.length)).toArray) := by
  cases n with
  | zero =>
   have : vs = [] := List.eq_nil_of_length_eq_zero (by rw [hvl]; simp)
   subst this
   have hs := setRow_self w g c0 o'.ty (0, 0) h1
   simp [Builtin.clear_, run_underlying hu, hs]
  | succ n => simp [Builtin.clear_, run_underlying hu, hz, hvs, hst]
 unfold Oper.wp
 simp only [execOp, ho, resolve, invoke, builtin, List.map_toArray, List.map_cons, List.map_nil, hr.evv hx, Sem.run_bind, Sem.run_pure, Result.andThen_ok, hrun]
 exact hn _ _ _ hK (hsh.put _ hd _ _ (.tup _ _ rfl fun j hj => by simp at hj)) ((chg_setRow w g _).mono fun b _ h => .inr (by cases h; exact hW))

theorem OpE.appendP {x y : Operand} {T e i n m sz bytes : Nat} {u z : Value} {cs cs' : List AV} {F : Nat → AV} (ho : o.op = .call { callee := .builtin .append, args := #[x, y], argTypes := #[T, T] }) (hB : B.Ok) (hd : okd B.nt o.dst = true)
  (hu : P.underlying T = some (.slice e)) (hinfo : (P.info? e).map (fun i => (i.zero, i.size, i.bytes)) = some (some z, sz, bytes)) (hz : z.cells.size = sz) (hsz : 0 < sz) (hby : bytes ≤ 4096)
  (hx : evO s x = some (.v u)) (hi : s.hp[i]? = some (.row u n sz cs e)) (hy : SrcP P B s y m sz F) (hone : ∀ j, j < m * sz → (F j).one = true) (hlen : n + m ≤ 10000000000) (hcs : cs ++ tab (m * sz) F = cs') (hW : ∀ g, u.ownBlock = some g → W g)
  (hK : ∀ u', K ((St'.mk s.sl (s.hp.set i (.row u' (n + m) sz cs' e)) s.k).put o.dst (.v u'))) : OpE P B W s o K := by
 subst hcs
 obtain ⟨ii, hii, hz0, hz1, hz2⟩ := info_parts hinfo
 intro a w hr next Qx hn
 have hmem := List.mem_of_getElem? hi
 obtain ⟨ad, cap2, v2, hv, hnil, hsrc⟩ := hy a w hr
 obtain ⟨hl0, hrow⟩ := hr.blocks _ hmem
 have hil := (List.getElem?_eq_some_iff.1 hi).1
 by_cases hm0 : m = 0
 ·subst hm0
  have hset : s.hp.set i (.row u (n + 0) sz (cs ++ tab (0 * sz) F) e) = s.hp := by
   rw [Nat.zero_mul]
   simp only [tab, List.append_nil, Nat.add_zero]
   apply List.ext_getElem?
   intro j
   rw [List.getElem?_set]
   split
   ·rename_i h; subst h; first | (rw [if_pos hil]; exact hi.symm) | exact hi.symm
   ·rfl
  have hrun : (Builtin.append_ #[T, T] o.type #[u, .slice ad 0 cap2]).run P w = .ok u w := by
   have hf : ∀ w, (Builtin.firstCells sz 0 (.slice ad 0 cap2)).run P w = .ok #[] w := fun w => by
    cases ad with
    | none => rfl
    | some x0 =>
     have := run_loadCells_list (P := P) w x0 [] (fun j v hj => by simp at hj)
     simpa [Builtin.firstCells] using this
   subst hz1
   rcases hrow with ⟨rfl, rfl⟩ | ⟨g, cap, c, rfl, k1, k2, k3, k4, k5⟩
   ·simp [Builtin.append_, run_underlying hu, sizeOf, typeInfo, hii, Builtin.lenOf, hf]
   ·simp [Builtin.append_, run_underlying hu, sizeOf, typeInfo, hii, Builtin.lenOf, hf, k1, storeCells]
  have := hK u
  rw [hset] at this
  unfold Oper.wp
  simp only [execOp, ho, resolve, invoke, builtin, List.map_toArray, List.map_cons, List.map_nil, hr.evv hx, hv, Sem.run_bind, Sem.run_pure, Result.andThen_ok, hrun]
  exact hn _ _ _ this (hr.put _ hd _ _ (.v _)) (Ew.rf _)
 obtain ⟨x0, rfl⟩ : ∃ x0, ad = some x0 := by
  cases ad with
  | none => exact absurd (hnil rfl).1 hm0
  | some x0 => exact ⟨x0, rfl⟩
 obtain ⟨old, hrow', hold⟩ : ∃ old : Nat → Value, ((u = .slice none 0 0 ∧ n = 0) ∨ ∃ g cap c, u = .slice (some ⟨g, 0, none⟩) n cap ∧ n ≤ cap ∧ cap ≤ maxLen ∧ w.heap[g]? = some (.cells c e (0, 0)) ∧ c.size = cap * sz ∧ ∀ j, j < n * sz → c[j]? = some (old j)) ∧
   ∀ j, (h : j < cs.length) → Rep w (Zn B s.hp w) cs[j] (old j) := by
  rcases hrow with ⟨h, rfl⟩ | ⟨g, cap, c, h, k1, k2, k3, k4, k5⟩
  ·exact ⟨fun _ => undef, .inl ⟨h, rfl⟩, fun j hj => by omega⟩
  ·refine ⟨fun j => c.getD j undef, .inr ⟨g, cap, c, h, k1, k2, k3, k4, fun j hj => ?_⟩, fun j hj => ?_⟩
   ·obtain ⟨x, q1, _⟩ := k5 j (by omega)
    exact getD_lt (Array.getElem?_eq_some_iff.1 q1).1
   ·obtain ⟨x, q1, q2⟩ := k5 j hj
    simp only
    rw [show c.getD j undef = x by rw [Array.getD_eq_getD_getElem?, q1]; rfl]
    exact q2
 obtain ⟨g, cap, w', c, hrun, e1, e2', e3, e4, e5, e6, e7, e8⟩ := append_run (P := P) w T o.type e ii z sz bytes hu hii hz0 hz1 hz2 hz hsz hby u n old hrow' x0 m cap2 v2
  (fun j hj => (hsrc x0 rfl j hj).1) (fun j hj => (hsrc x0 rfl j hj).2.oneC (hone j hj)) (by omega) hlen
 have hblk : (Ent.row (.slice (some ⟨g, 0, none⟩) (n + m) cap) (n + m) sz (cs ++ tab (m * sz) F) e).blk = (Ent.row u n sz cs e).blk ∨ ∃ g', (Ent.row (.slice (some ⟨g, 0, none⟩) (n + m) cap) (n + m) sz (cs ++ tab (m * sz) F) e).blk = some g' ∧ w.heap.size ≤ g' := by
  rcases e8 with e8 | e8
  ·exact .inl (by simp only [Ent.blk]; rw [e8]; rfl)
  ·exact .inr ⟨g, rfl, e8⟩
 have hr' := hr.set hB hi (e' := .row (.slice (some ⟨g, 0, none⟩) (n + m) cap) (n + m) sz (cs ++ tab (m * sz) F) e) e7 hblk (by
  have hz : ∀ b, Zn B s.hp w b → b < w.heap.size → w'.heap[b]? = w.heap[b]? ∧ Zn B (s.hp.set i (.row (.slice (some ⟨g, 0, none⟩) (n + m) cap) (n + m) sz (cs ++ tab (m * sz) F) e)) w' b := fun b hb hbl => by
   refine ⟨e7.block b hbl fun h => hb.2.1 _ hmem h, Nat.lt_of_lt_of_le hbl e7.size, fun p hp => ?_, hb.2.2⟩
   rcases List.mem_or_eq_of_mem_set hp with hp | hp
   ·exact hb.2.1 p hp
   ·subst hp
    rcases hblk with h | ⟨g', h, hg'⟩
    ·rw [h]; exact hb.2.1 _ hmem
    ·rw [h]; intro h'; simp at h'; omega
  refine ⟨by rw [List.length_append, hl0, tab_len, Nat.add_mul], .inr ⟨g, cap, c, rfl, e1, e2', e3, e4, fun j hj => ?_⟩⟩
  by_cases hjl : j < cs.length
  ·rw [List.getElem_append_left hjl]
   exact ⟨old j, e5 j (by omega), (hold j hjl).keep hz⟩
  ·rw [List.getElem_append_right (by omega)]
   simp [tab_len] at hj
   refine ⟨v2 (j - cs.length), ?_, ?_⟩
   ·have := e6 (j - cs.length) (by omega)
    rwa [show n * sz + (j - cs.length) = j by omega] at this
   ·rw [tab_get]
    exact (hsrc x0 rfl _ (by omega)).2.keep hz)
 unfold Oper.wp
 simp only [execOp, ho, resolve, invoke, builtin, List.map_toArray, List.map_cons, List.map_nil, hr.evv hx, hv, Sem.run_bind, Sem.run_pure, Result.andThen_ok, hrun]
 exact hn _ _ _ (hK _) (hr'.put _ hd _ _ (.v _)) (e7.mono fun b _ h => .inr (hW b h))

theorem OpE.buildSlice0 {t e sz : Nat} (ho : o.op = .buildSlice t 0 #[]) (hB : B.Ok) (hd : okd B.nt o.dst = true) (hu : P.underlying t = some (.slice e)) (hsz : ∀ w, (sizeOf e).run P w = .ok sz w)
  (hK : ∀ g, K ((St'.mk s.sl (s.hp ++ [.row (.slice (some ⟨g, 0, none⟩) 0 0) 0 sz [] e]) s.k).put o.dst (.v (.slice (some ⟨g, 0, none⟩) 0 0)))) : OpE P B W s o K := by
 intro a w hr next Qx hn
 have h1 := hr.new hB (.cells #[] e) (.row (.slice (some ⟨w.heap.size, 0, none⟩) 0 0) 0 sz [] e) rfl ⟨by simp, .inr ⟨w.heap.size, 0, #[], rfl, Nat.le_refl _, by simp [maxLen], heap_alloc_new w _, by simp, fun j hj => by simp at hj⟩⟩
 have hz0 : ∀ f : Nat → Value, Array.map f (Array.range 0) = #[] := fun f => by
  apply Array.ext (by simp)
  intro i hi
  simp at hi
 have hrun : (execOp a.eval o).run P w = .ok (.value (.slice (some ⟨w.heap.size, 0, none⟩) 0 0)) (w.alloc (.cells #[] e)) := by
  simp only [execOp, ho, Instr.buildSlice, newRow, Sem.run_bind, run_underlying hu, hsz, Result.andThen_ok, Sem.run_pure, Nat.zero_mul, if_true, if_false, hz0]
  simp [Instr.fill, run_newObj_alloc, hz0]
 unfold Oper.wp
 rw [hrun]
 exact hn _ _ _ (hK _) (h1.put _ hd _ _ (.v _)) (.ofN ((Chg.refl _ _).alloc _))

theorem OpE.eqNil {x : Operand} {t u e n sz : Nat} {F : Nat → AV} (ho : o.op = .binOp .eql t x (.const (.slice none 0 0)) u) (hd : okd B.nt o.dst = true) (hu : P.underlying t = some (.slice e)) (hx : evO s x = some (.im n sz F))
  (hK : ∀ b : Bool, (b = true → n = 0) → K (s.put o.dst (avB b))) : OpE P B W s o K := by
 intro a w hr next Qx hn
 have := hr.ev hx
 generalize hv : a.eval x = v at this
 have key : ∃ ad cap, v = .slice ad n cap ∧ (ad = none → n = 0) := by
  cases this with
  | nil => exact ⟨none, 0, rfl, fun _ => rfl⟩
  | im n sz f b off cap c e u hZ h1 h2 hb hc hr' => exact ⟨some ⟨b, off, none⟩, cap, rfl, fun h => (by cases h)⟩
 obtain ⟨ad, cap, rfl, hnil⟩ := key
 have hrun := fun w => Lib.run_eql_slice_nil (P := P) w t e ad n cap 0 0 hu
 have hc : a.eval (.const (.slice none 0 0)) = .slice none 0 0 := rfl
 have hrun' : (execOp a.eval o).run P w = .ok (.value (.bool ad.isNone)) w := by
  simp only [execOp, ho, hv, hc, eqGuard, Sem.run_bind, Sem.run_pure, Result.andThen_ok, hrun]
  simp
 unfold Oper.wp
 rw [hrun']
 exact hn _ _ _ (hK ad.isNone fun h => hnil (by cases ad <;> simp_all)) (hr.put _ hd _ _ (.v _)) (Ew.rf _)
theorem VO.eqNil {ops : Array Oper} {rest : List Oper} {x : Operand} {t u e n sz : Nat} {F : Nat → AV} (hg : o.guard = none) (ho : o.op = .binOp .eql t x (.const (.slice none 0 0)) u) (hd : okd B.nt o.dst = true) (hu : P.underlying t = some (.slice e)) (hx : evO s x = some (.im n sz F))
  (hK : ∀ b : Bool, (b = true → n = 0) → VO P B ops rest Q (s.put o.dst (avB b))) : VO P B ops (o :: rest) Q s := VO.op hg (OpE.eqNil ho hd hu hx hK)

theorem OpV.slice_own {t e sz g off n cap : Nat} {x : Operand} {lo hi : Option Operand} {l h : Nat} (ho : o.op = .slice t x lo hi none) (hu : P.underlying t = some (.slice e)) (hsz : ∀ w, (sizeOf e).run P w = .ok sz w) (hx : evO s x = some (.v (.slice (some ⟨g, off, none⟩) n cap)))
  (hl : BndO s lo 0 l) (hh : BndO s hi n h) (h1 : l ≤ h) (h2 : h ≤ cap) (h3 : l < cap) : OpV P B W s o (.v (.slice (some ⟨g, off + l * sz, none⟩) (h - l) (cap - l))) := fun a w hr => by
 have e := fun w' => sliceB_run (P := P) (isS := true) (len := n) (cap := cap) (l := l) (h := h) (lo := lo.map a.eval) (hi := hi.map a.eval) (dl := (hl.run hr).imp (fun ⟨h1, h2⟩ => ⟨by rw [h1]; rfl, h2⟩) id) (dh := (hh.run hr).imp (fun ⟨h1, h2⟩ => ⟨by rw [h1]; rfl, h2⟩) id) h1 h2 w'
 have hne : ¬ cap = l := by omega
 exact ⟨_, fun w' hc => by simp [execOp, ho, Instr.sliceAt, Instr.slice, run_underlying hu, hr.evv hx, e w', hsz, hne, Addr.add], .v _⟩
end

theorem SpecR.of_VC {P : Program} {F : FuncId} {fn : Func} {c : Code} (hf : P.funcs[F]? = some fn) (hb : fn.body = some c) {xs : List AV} {n sz : Nat} {cs : List AV} {ty : TypeId} {nt : Nat} (hn : fn.ntmps = nt) (hle : xs.length ≤ nt) (hfl : ∀ x ∈ cs, ∃ v, x = .v v)
  (h : ∀ w A, (B0 w A nt).Ok → VC P (B0 w A nt) c (retS P fn fun y s => ∃ u, y = .v u ∧ .row u n sz cs ty ∈ s.hp) ⟨slots0 0 xs, [], 0⟩) : SpecR P F xs n sz cs ty := fun w us ha =>
 (calls_of_VC (k := 0) hf hb (B := B0 w (fun _ => True) nt) rfl hn.symm ha (fun _ h => h.elim) trivial (by omega) (h w _ (B0.ok _ _ _))).mono fun e w' ⟨y, v, s, a, ⟨u, h0, h1⟩, h2, h3, h4⟩ => by
  subst h0
  have hv := h3.eq_v
  subst hv
  refine ⟨_, h2, ?_, fun g hg => ?_, h4.chg⟩
  ·obtain ⟨k0, k1⟩ := h4.blocks _ h1
   refine ⟨k0, k1.imp id fun ⟨g, cap, c, q1, q2, q3, q4, q5, q6⟩ => ⟨g, cap, c, q1, q2, q3, q4, q5, fun j hj => ?_⟩⟩
   obtain ⟨u, r1, r2⟩ := q6 j hj
   obtain ⟨v', hv'⟩ := hfl _ (List.getElem_mem hj)
   refine ⟨u, r1, ?_⟩
   rw [hv'] at r2 ⊢
   rw [r2.eq_v]
   exact .v _
  ·have : ¬ g < w.heap.size := h4.isNew (fun b h => h) h1 hg
   omega

class Sx1 (α : Type) [Inhabited α] where
 cell : α → AV
section
variable {α : Type} [Inhabited α] [Sx1 α]
abbrev avM (xs : List α) : AV := .im xs.length 1 fun j => Sx1.cell (xs.getD j default)
end
instance : Sx1 (List ByteArray) := ⟨fun x => avStrs x⟩
instance : Sx1 (List Int) := ⟨fun x => avInts x⟩
end Go.Proofs.YtemnnmohdpabhaaGreatDoor
namespace Go.Proofs.YtemnnmohdpabhaaGreatDoor
open Go.RowKit
set_option linter.unusedVariables false
set_option linter.unusedSimpArgs false

section
variable {P : Program} {B : Bs} {W : Nat → Prop} {s s' : St'} {o : Oper} {K : St' → Prop} {a : Act} {w w' : World} {Q : Exit → St' → Prop}

theorem Le.swap {i : Nat} {e e' : Ent} (hi : s.hp[i]? = some e) (hblk : e'.blk = e.blk) (hE : ∀ w Z, EntR w Z e → EntR w Z e') : Le B s ⟨s.sl, s.hp.set i e', s.k⟩ := fun a w hr => hr.swap hi hblk (hE w)
theorem Le.pickH {hp : List Ent} (ix : List Nat) (hix : ndB ix = true) (h3 : keepIx ix s.hp = hp) : Le B s ⟨s.sl, hp, s.k⟩ := fun a w hr => by
 subst h3
 have hm : ∀ p ∈ keepIx ix s.hp, p ∈ s.hp := fun p hp => by
  rw [keepIx_fm] at hp
  obtain ⟨i, _, hi⟩ := List.mem_filterMap.1 hp
  exact List.mem_of_getElem? hi
 have hz : ∀ b, Zn B s.hp w b → Zn B (keepIx ix s.hp) w b := fun b hb => ⟨hb.1, fun p hp' => hb.2.1 p (hm p hp'), hb.2.2⟩
 refine ⟨fun t x hx => (hr.slots t x hx).keep fun b hb _ => ⟨rfl, hz b hb⟩, hr.size, hr.defs, fun p hp' => (hr.blocks p (hm p hp')).keep (fun b hb _ => ⟨rfl, hz b hb⟩) fun _ _ => rfl, ?_, hr.chg, fun p hp' g hg => hr.own p (hm p hp') g hg, hr.res⟩
 show Apart (keepIx ix s.hp)
 unfold Apart
 rw [keepIx_fm, List.pairwise_filterMap]
 refine (ndB_spec hix).imp fun {i j} hij p hp q hq g hg => hr.nodup.get hp hq hij hg
theorem Le.drop (m : Nat) : Le B s ⟨s.sl, s.hp.drop m, s.k⟩ := fun a w hr => hr.drop (fun _ _ h => h) (List.drop_sublist m s.hp)
theorem VO.asBox {ops : Array Oper} {rest : List Oper} {i n sz : Nat} {u : Value} {cs : List AV} {ty : TypeId} (hi : s.hp[i]? = some (.row u n sz cs ty)) (hn : 0 < n)
  (h : ∀ g cap, u = .slice (some ⟨g, 0, none⟩) n cap → n ≤ cap → cap ≤ maxLen → VO P B ops rest Q ⟨s.sl, s.hp.set i (.box g ⟨cs, ty, cap * sz⟩), s.k⟩) : VO P B ops rest Q s := fun a w hr => by
 obtain ⟨g, cap, h1, h2, h3, h4⟩ := hr.rowBox hi hn
 exact h g cap h1 h2 h3 a w h4

theorem VO.rowIs {ops : Array Oper} {rest : List Oper} {i n sz : Nat} {u : Value} {cs : List AV} {ty : TypeId} (hi : s.hp[i]? = some (.row u n sz cs ty)) (h : ∀ b c, u = .slice b n c → VO P B ops rest Q s) : VO P B ops rest Q s := fun a w hr => by
 obtain ⟨_, ⟨rfl, rfl⟩ | ⟨g, cap, c, rfl, _⟩⟩ := hr.blocks _ (List.mem_of_getElem? hi)
 ·exact h none 0 rfl a w hr
 ·exact h _ cap rfl a w hr
theorem VC.rowIs {c0 : Code} {Qc : Exit → St' → Prop} {i n sz : Nat} {u : Value} {cs : List AV} {ty : TypeId} (hi : s.hp[i]? = some (.row u n sz cs ty)) (h : ∀ b c, u = .slice b n c → VC P B c0 Qc s) : VC P B c0 Qc s := fun a w hr => by
 obtain ⟨_, ⟨rfl, rfl⟩ | ⟨g, cap, c, rfl, _⟩⟩ := hr.blocks _ (List.mem_of_getElem? hi)
 ·exact h none 0 rfl a w hr
 ·exact h _ cap rfl a w hr
theorem look_k {l : List (Nat × AV)} {t : Nat} {b want : Bool} (h : look l t = some (.v (.bool b))) (hb : b = want) : look l t = some (.v (.bool want)) := hb ▸ h
theorem SpecH.args {F : FuncId} {xs xs' : List AV} {hp : List Ent} {G : AV → List Ent → Prop} (h : SpecH P F xs hp G) (hl : xs'.length = xs.length) (ha : ∀ (j : Nat) (h1 : j < xs'.length) (h2 : j < xs.length) (w : World) (Z : Nat → Prop) (u : Value), Rep w Z xs'[j] u → Rep w Z xs[j] u) : SpecH P F xs' hp G :=
 fun w A us h1 => h w A us ⟨h1.1.trans hl, fun j hj => ha j (by omega) hj _ _ _ (h1.2 j (by omega))⟩
theorem ArgP.nil {x : Operand} {sz : Nat} {F : Nat → AV} (h : evO s x = some (.v (.slice none 0 0))) : ArgP P B s x (.im 0 sz F) := fun a w hr => by
 rw [hr.evv h]
 exact .nil _ _
end
instance : Sx1 (List (List ByteArray)) := ⟨fun x => avM x⟩
instance : Sx1 (List (List Int)) := ⟨fun x => avM x⟩
end Go.Proofs.YtemnnmohdpabhaaGreatDoor
namespace Go.Proofs.YtemnnmohdpabhaaGreatDoor
open Go.RowKit
set_option linter.unusedVariables false
set_option linter.unusedSimpArgs false

section
variable {P : Program} {s : St'}
theorem ResN.rowT {α : Type} [Inhabited α] [Sxc α] {t i n : Nat} {u : Value} {xs : List α} {ty : TypeId} (h : look s.sl t = some (.v u)) (hi : s.hp[i]? = some (.row u n (Sxc.k α) (rowL xs) ty)) (hn : n = xs.length) (hf : FlatA (rowL xs)) : ResN P s (.tmp t) (avL xs) :=
 ResN.row h hi hf fun w Z u h => Rep.rowL hn h
theorem ResN.nilE {t sz : Nat} {F : Nat → AV} (h : look s.sl t = some (.v (.slice none 0 0))) : ResN P s (.tmp t) (.im 0 sz F) := fun B a w hS hr => ⟨_, rfl, by
 show Rep w (NewZ B w) _ (a.tmps.getD t undef)
 rw [(hr.slots t _ h).eq_v]; exact .nil _ _⟩
end
section
variable {P : Program} {B : Bs} {W : Nat → Prop} {s : St'} {o : Oper} {K : St' → Prop} {a : Act} {w : World}
theorem Le.freezeAt {t i m g : Nat} {o' : Own'} {f : Nat → AV} (ht : look s.sl t = some (.v (.pointer (some ⟨g, 0, none⟩)))) (hi : s.hp[i]? = some (.box g o')) (hl : 0 + m ≤ o'.cs.length) (hf : ∀ w Z u, Rep w Z (.at_ m fun j => o'.cs.getD (0 + j) .any) u → Rep w Z (.at_ m f) u) (hnew : True) (hB : B.Ok) :
  Le B s ⟨(t, .at_ m f) :: s.sl, s.hp.eraseIdx i, s.k⟩ := fun a w hr => by
 have hr' := hr.erase i
 refine hr'.over t ?_
 have hu : a.tmps.getD t undef = _ := (hr.slots t _ ht).eq_v
 rw [hu]
 refine hf _ _ _ (hr.repPtr hi hl (fun b hb => ⟨hb.1, fun p hp => hb.2.1 p ((List.eraseIdx_sublist s.hp i).subset hp), hb.2.2⟩) fun hl => ?_)
 exact hr.erased hB hi rfl
theorem apart_ne {hp : List Ent} (h : Apart hp) {i j g g' : Nat} (hi : (hp[i]?).bind Ent.blk = some g) (hj : (hp[j]?).bind Ent.blk = some g') (hij : i ≠ j) : g ≠ g' := fun e => by
 obtain ⟨p, hp1, hp2⟩ := Option.bind_eq_some_iff.1 hi
 obtain ⟨q, hq1, hq2⟩ := Option.bind_eq_some_iff.1 hj
 exact h.get hp1 hq1 hij hp2 (by rw [hq2, e])
theorem OpE.hap (h : Apart s.hp → OpE P B W s o K) : OpE P B W s o K := fun a w hr => h hr.nodup a w hr
theorem VC.hap {c : Code} {Q : Exit → St' → Prop} (h : Apart s.hp → VC P B c Q s) : VC P B c Q s := fun a w hr => h hr.nodup a w hr
theorem Wi.notD {ops : Array Oper} {i g : Nat} {js : List Nat} {X : Nat → Prop} (h : (js.all fun j => depB ops j i) = true) : ¬ Wi (fun j b => j ∈ js ∧ X b) ops i g := fun ⟨j, h1, h2, _⟩ => by
 rw [List.all_eq_true.1 h j h2] at h1; cases h1
theorem OpV.makeFuncF1 {F : FuncId} {c : Operand} {x : AV} (ho : o.op = .makeFunc (.func F) #[] #[c]) (hc : evO s c = some x) : OpV P B W s o (.fn F [x]) := fun a w hr => by
 refine ⟨.func (.func F) #[] #[a.eval c], fun w' _ => by simp [execOp, ho, Instr.makeFunc], .fn _ _ _ rfl fun j hj => ?_⟩
 simp at hj; subst hj
 exact hr.ev hc
end
end Go.Proofs.YtemnnmohdpabhaaGreatDoor
namespace Go.Proofs.YtemnnmohdpabhaaGreatDoor
open Go.RowKit
set_option linter.unusedVariables false
set_option linter.unusedSimpArgs false

def below (x n : Int) : Int := if n < 1 then 0 else x % n
theorem below_lo (x n : Int) : 0 ≤ below x n := by unfold below; split; omega; exact Int.emod_nonneg _ (by omega)
theorem below_lt (x n : Int) (h : 1 ≤ n) : below x n < n := by unfold below; rw [if_neg (by omega)]; exact Int.emod_lt_of_pos _ (by omega)
theorem tmod_facts (x n : Int) (h : 1 ≤ n) : x.tmod n < n ∧ -n < x.tmod n ∧ (x.tmod n < 0 → x.tmod n + n = x % n) ∧ (0 ≤ x.tmod n → x.tmod n = x % n) := by
 have hn := Int.emod_nonneg x (show n ≠ 0 by omega)
 have hl := Int.emod_lt_of_pos x (show 0 < n by omega)
 by_cases h0 : 0 ≤ x
 ·rw [Int.tmod_eq_emod_of_nonneg h0]
  exact ⟨hl, by omega, fun _ => by omega, fun _ => rfl⟩
 ·have e : x.tmod n = -((-x) % n) := by
   rw [← Int.tmod_eq_emod_of_nonneg (by omega : 0 ≤ -x), Int.neg_tmod, Int.neg_neg]
  have hn' := Int.emod_nonneg (-x) (show n ≠ 0 by omega)
  have hl' := Int.emod_lt_of_pos (-x) (show 0 < n by omega)
  have e2 := Int.neg_emod (a := x) (b := n)
  rw [e]
  split at e2
  ·have : x % n = 0 := Int.emod_eq_zero_of_dvd ‹_›
   exact ⟨by omega, by omega, fun _ => by omega, fun _ => by omega⟩
  ·have e3 : (n.natAbs : Int) = n := by omega
   rw [e3] at e2
   exact ⟨by omega, by omega, fun _ => by omega, fun _ => by omega⟩

set_option maxHeartbeats 400000 in
theorem below_any (x n : Int) (w : World) (hn : n ≤ 9223372036854775807) :
  Calls Tryz.prog 167 #[.int .i64 x, .int .i64 n] w fun e w' => e = .returned (.int .i64 (below x n)) ∧ w = w' := by
 by_cases h1 : n < 1
 ·go_enter Tryz.func167, Tryz.ntmps167
  go_wp2
  go_ret
  exact ⟨by simp [below, h1], rfl⟩
 ·obtain ⟨b1, b2, b3, b4⟩ := tmod_facts x n (by omega)
  have B3 := hid b3; clear b3
  have B4 := hid b4; clear b4
  go_enter Tryz.func167, Tryz.ntmps167
  go_wp2
  ·go_ret
   exact ⟨ret_int (by rw [below, if_neg (by omega)]; exact B3.out (by omega)), rfl⟩
  ·go_ret
   exact ⟨ret_int (by rw [below, if_neg (by omega)]; exact B4.out (by omega)), rfl⟩

def nxt (L : List Int) (k : Nat) (n : Int) : Int :=
 if L.length = 0 then below (((k : Int) + 1) * 7919) n
 else below (below (L.getD (k % L.length) 0) 1073741824 + ((k / L.length : Nat) : Int) * (7919 + ((k % L.length : Nat) : Int))) n
theorem nxt_lo (L : List Int) (k : Nat) (n : Int) : 0 ≤ nxt L k n := by unfold nxt; split <;> exact below_lo _ _
theorem nxt_lt (L : List Int) (k : Nat) (n : Int) (h : 1 ≤ n) : nxt L k n < n := by unfold nxt; split <;> exact below_lt _ _ h

def Strm (w : World) (p : Nat) (L : List Int) (k : Nat) : Prop :=
 ∃ a cap, w.heap[p]? = some (.cells #[.slice a L.length cap, .int .i64 k] 25 (0, 0)) ∧ L.length ≤ 9223372036854775807 ∧
  ∀ i, i < L.length → ∃ b o, a = some ⟨b, o, none⟩ ∧ b < p ∧ w.cell? ⟨b, o + i, none⟩ = some (.int .i64 (L.getD i 0))

theorem Strm.keep {S : Nat → Prop} {w w' : World} {p : Nat} {L : List Int} {k : Nat} (h : Strm w p L k) (c : Chg S w w') (hs : ∀ j, j ≤ p → ¬ S j) : Strm w' p L k := by
 obtain ⟨a, cap, hp, hl, hc⟩ := h
 have hlt := (Array.getElem?_eq_some_iff.1 hp).1
 refine ⟨a, cap, (c.block p hlt (hs p (Nat.le_refl _))).trans hp, hl, fun i hi => ?_⟩
 obtain ⟨b, o, ha, hb, hcell⟩ := hc i hi
 exact ⟨b, o, ha, hb, c.cell hcell (hs _ (Nat.le_of_lt hb))⟩
theorem Strm.lt {w : World} {p : Nat} {L : List Int} {k : Nat} (h : Strm w p L k) : p < w.heap.size := by
 obtain ⟨a, cap, hp, hl, hc⟩ := h
 exact (Array.getElem?_eq_some_iff.1 hp).1

theorem Strm.step {w : World} {p : Nat} {L : List Int} {k : Nat} {a : Option Addr} {cap : Nat}
  (hp : w.heap[p]? = some (.cells #[.slice a L.length cap, .int .i64 k] 25 (0, 0))) (hl : L.length ≤ 9223372036854775807)
  (hc : ∀ i, i < L.length → ∃ b o, a = some ⟨b, o, none⟩ ∧ b < p ∧ w.cell? ⟨b, o + i, none⟩ = some (.int .i64 (L.getD i 0))) :
  Strm (w.setCell ⟨p, 1, none⟩ (.int .i64 ((k : Int) + 1))) p L (k + 1) := by
 refine ⟨a, cap, ?_, hl, fun i hi => ?_⟩
 ·simp [World.setCell, Array.getElem?_modify, hp]
 ·obtain ⟨b, o, ha, hb, hcell⟩ := hc i hi
  refine ⟨b, o, ha, hb, ?_⟩
  rw [← hcell]
  exact World.cell?_of_block (Below.heap_setCell _ _ _ _ (Nat.ne_of_lt hb))

set_option maxHeartbeats 400000 in
theorem next_any (p : Nat) (L : List Int) (k : Nat) (n : Int) (w : World) (h : Strm w p L k) (hk : k ≤ 1000000) (hn : n ≤ 1000000000) :
  Calls Tryz.prog 69 #[.pointer (some ⟨p, 0, none⟩), .int .i64 n] w fun e w' => e = .returned (.int .i64 (nxt L k n)) ∧ Strm w' p L (k + 1) ∧ Chg (AtB p) w w' := by
 obtain ⟨a, cap, hp, hl, hc⟩ := h
 have c0 : w.cell? ⟨p, 0, none⟩ = some (.slice a L.length cap) := by simp [World.cell?, hp]
 have c1 : w.cell? ⟨p, 1, none⟩ = some (.int .i64 k) := by simp [World.cell?, hp]
 have f1 : w.frozen? ⟨p, 1, none⟩ = false := by simp [World.frozen?, hp]
 have HP := hid hp; clear hp
 by_cases h0 : L.length = 0
 ·have h0' : ((L.length : Int) == 0) = true := by simp [h0]
  have H0 := hid h0; clear h0
  go_enter Tryz.func69, Tryz.ntmps69
  go_wp2_with (go_at_call 167; refine (below_any _ _ _ (by omega)).mono ?_; rintro e w' ⟨rfl, rfl⟩)
  go_ret
  exact ⟨ret_int (by rw [nxt, if_pos H0.out]), Strm.step HP.out hl hc, (Chg.refl (AtB p) w).setCell (a := ⟨p, 1, none⟩) (fun _ => rfl) _⟩
 ·have h0' : ((L.length : Int) == 0) = false := beq_eq_false_iff_ne.2 (by omega)
  obtain ⟨b, o, rfl, hbp', _⟩ := hc 0 (by omega)
  have hbp : b ≠ p := by omega
  have hci := (hc (k % L.length) (Nat.mod_lt _ (by omega)))
  obtain ⟨_, _, he, _, hci⟩ := hci
  cases he
  have HC := hid hc; clear hc
  have hm := Nat.mod_lt k (show 0 < L.length by omega)
  have hmk := Nat.mod_le k L.length
  have hdk := Nat.div_le_self k L.length
  have hb := below_lo (L[k % L.length]) 1073741824
  have hb2 := below_lt (L[k % L.length]) 1073741824 (by omega)
  have em : (k : Int) % (L.length : Int) = ((k % L.length : Nat) : Int) := by simp
  have ed : (k : Int) / (L.length : Int) = ((k / L.length : Nat) : Int) := by simp
  have m1 : 0 ≤ (k : Int) % (L.length : Int) := by rw [em]; omega
  have m2 : (k : Int) % (L.length : Int) < (L.length : Int) := by rw [em]; omega
  have m3 : (k : Int) % (L.length : Int) ≤ 1000000 := by rw [em]; omega
  have d1 : 0 ≤ (k : Int) / (L.length : Int) := Int.ediv_nonneg (by omega) (by omega)
  have d2 : (k : Int) / (L.length : Int) ≤ 1000000 := by rw [ed]; omega
  clear em ed
  have q1 : 0 ≤ (k : Int) / (L.length : Int) * (7919 + (k : Int) % (L.length : Int)) := Int.mul_nonneg d1 (by omega)
  have q2 : (k : Int) / (L.length : Int) * (7919 + (k : Int) % (L.length : Int)) ≤ 1000000 * 1007919 := Int.mul_le_mul d2 (by omega) (by omega) (by omega)
  go_enter Tryz.func69, Tryz.ntmps69
  go_wp2_with fail
  go_quiet (fail)
  go_wp2_with fail
  go_quiet (fail)
  go_wp2_with (go_at_call 167; refine (below_any _ _ _ (by omega)).mono ?_; rintro e w' ⟨rfl, rfl⟩)
  go_ret
  refine ⟨ret_int ?_, (Strm.step HP.out hl HC.out).keep ((Chg.refl NoB _).drewN _) (fun _ _ x => x), ((Chg.refl (AtB p) w).setCell (a := ⟨p, 1, none⟩) (fun _ => rfl) _).drewN _⟩
  rw [nxt, if_neg h0]
  simp [hm]

def rng (L : List Int) (k : Nat) (lo hi : Int) : Int := lo + nxt L k (hi - lo + 1)
theorem rng_lo (L : List Int) (k : Nat) (lo hi : Int) : lo ≤ rng L k lo hi := by unfold rng; have := nxt_lo L k (hi - lo + 1); omega
theorem rng_hi (L : List Int) (k : Nat) (lo hi : Int) (h : lo ≤ hi) : rng L k lo hi ≤ hi := by unfold rng; have := nxt_lt L k (hi - lo + 1) (by omega); omega

set_option maxHeartbeats 400000 in
theorem range_any (p : Nat) (L : List Int) (k : Nat) (lo hi : Int) (w : World) (h : Strm w p L k) (hk : k ≤ 1000000) (h0 : 0 ≤ lo) (hl : lo ≤ hi) (hn : hi ≤ 999999999) :
  Calls Tryz.prog 26 #[.pointer (some ⟨p, 0, none⟩), .int .i64 lo, .int .i64 hi] w fun e w' => e = .returned (.int .i64 (rng L k lo hi)) ∧ Strm w' p L (k + 1) ∧ Chg (AtB p) w w' := by
 have b1 := nxt_lo L k (hi - lo + 1)
 have b2 := nxt_lt L k (hi - lo + 1) (by omega)
 have hlt := h.lt
 go_enter Tryz.func26, Tryz.ntmps26
 go_wp2_with (go_at_call 69; refine (next_any _ _ _ _ _ h (by omega) (by omega)).mono ?_; rintro e w' ⟨rfl, hs, hc⟩)
 go_ret
 exact ⟨rfl, hs, hc⟩

set_option maxHeartbeats 400000 in
theorem flip_any (p : Nat) (L : List Int) (k : Nat) (n : Int) (w : World) (h : Strm w p L k) (hk : k ≤ 1000000) (hn : n ≤ 1000000000) :
  Calls Tryz.prog 10 #[.pointer (some ⟨p, 0, none⟩), .int .i64 n] w fun e w' => e = .returned (.bool (nxt L k n == 0)) ∧ Strm w' p L (k + 1) ∧ Chg (AtB p) w w' := by
 go_enter Tryz.func10, Tryz.ntmps10
 go_wp2_with (go_at_call 69; refine (next_any _ _ _ _ _ h (by omega) (by omega)).mono ?_; rintro e w' ⟨rfl, hs, hc⟩)
 go_ret
 exact ⟨rfl, hs, hc⟩

end Go.Proofs.YtemnnmohdpabhaaGreatDoor
namespace Go.Proofs.YtemnnmohdpabhaaGreatDoor
open Go.RowKit
set_option linter.unusedVariables false
set_option linter.unusedSimpArgs false

def TT (p : Nat) (L : List Int) (w : World) (k : Nat) : Prop := ∃ k', k' ≤ k ∧ Strm w p L k'
abbrev sp (p : Nat) : AV := .v (.pointer (some ⟨p, 0, none⟩))
theorem TT.ok {p : Nat} {L : List Int} {w : World} {A : Nat → Prop} {nt k : Nat} (h : TT p L w k) : (B1 w A nt (fun b => b = p) (fun b => b ≤ p) (TT p L)).Ok := by
 obtain ⟨k', hk, hs⟩ := h
 exact {
  keep := fun {S w w' k} ⟨k', hk, hs⟩ hc hS => ⟨k', hk, hs.keep hc hS⟩
  low := fun j hj => Nat.lt_of_le_of_lt hj hs.lt
  str := fun j hj => by cases hj; exact ⟨Nat.le_refl _, rfl⟩
  up := fun {w k k2} ⟨k', h1, h2⟩ h3 => ⟨k', Nat.le_trans h1 h3, h2⟩ }
theorem chgIs {p : Nat} {w w' : World} (h : Chg (AtB p) w w') : Chg (fun b => b = p) w w' := by
 have : (fun b => b = p) = AtB p := rfl
 rw [this]; exact h

theorem SpecT.of_Calls {P : Program} {F : FuncId} {xs : List AV} {us0 : Array Value} {p : Nat} {L : List Int} {G : AV → Prop}
  (hus : ∀ w A us, Args w A xs us → us = us0)
  (h : ∀ w k, k ≤ 1000000 → Strm w p L k → Calls P F us0 w fun e w' => ∃ v, e = .returned v ∧ G (.v v) ∧ Strm w' p L (k + 1) ∧ Chg (AtB p) w w') :
  SpecT P (TT p L) (fun b => b = p) F xs 1 G := by
 intro w A us k hA ⟨k', hk', hs⟩ hstr hk
 have hu := hus w A us hA
 subst hu
 refine (h w k' (by omega) hs).mono ?_
 rintro e w' ⟨v, rfl, hG, hs', hc⟩
 exact ⟨.v v, v, hG, rfl, .v v, chgIs hc, ⟨k' + 1, by omega, hs'⟩⟩
theorem args2 {p : Nat} {u : Value} {w : World} {A : Nat → Prop} {us : Array Value} (h : Args w A [sp p, .v u] us) : us = #[.pointer (some ⟨p, 0, none⟩), u] := by
 obtain ⟨h1, h2⟩ := h
 have e0 := (h2 0 (by simp)).eq_v
 have e1 := (h2 1 (by simp)).eq_v
 apply Array.ext (by simpa using h1)
 intro i hi hi'
 simp at hi'
 rw [h1] at hi
 match i, hi' with
 | 0, _ => simpa [Array.getD_eq_getD_getElem?, h1] using e0
 | 1, _ => simpa [Array.getD_eq_getD_getElem?, h1] using e1
theorem args3 {p : Nat} {u v : Value} {w : World} {A : Nat → Prop} {us : Array Value} (h : Args w A [sp p, .v u, .v v] us) : us = #[.pointer (some ⟨p, 0, none⟩), u, v] := by
 obtain ⟨h1, h2⟩ := h
 have e0 := (h2 0 (by simp)).eq_v
 have e1 := (h2 1 (by simp)).eq_v
 have e2 := (h2 2 (by simp)).eq_v
 apply Array.ext (by simpa using h1)
 intro i hi hi'
 simp at hi'
 rw [h1] at hi
 match i, hi' with
 | 0, _ => simpa [Array.getD_eq_getD_getElem?, h1] using e0
 | 1, _ => simpa [Array.getD_eq_getD_getElem?, h1] using e1
 | 2, _ => simpa [Array.getD_eq_getD_getElem?, h1] using e2

section
variable {p : Nat} {L : List Int}
theorem next_T {n : Int} (hn : n ≤ 1000000000) : SpecT Tryz.prog (TT p L) (fun b => b = p) 69 [sp p, avI n] 1 (fun y => ∃ r : Int, (0 ≤ r ∧ (1 ≤ n → r < n)) ∧ y = avI r) :=
 SpecT.of_Calls (fun w A us h => args2 h) fun w k hk hs => (next_any p L k n w hs hk hn).mono fun e w' ⟨h1, h2, h3⟩ => ⟨_, h1, ⟨_, ⟨nxt_lo L k n, nxt_lt L k n⟩, rfl⟩, h2, h3⟩
theorem range_T {lo hi : Int} (h0 : 0 ≤ lo) (hl : lo ≤ hi) (hn : hi ≤ 999999999) : SpecT Tryz.prog (TT p L) (fun b => b = p) 26 [sp p, avI lo, avI hi] 1 (fun y => ∃ r : Int, (lo ≤ r ∧ r ≤ hi) ∧ y = avI r) :=
 SpecT.of_Calls (fun w A us h => args3 h) fun w k hk hs => (range_any p L k lo hi w hs hk h0 hl hn).mono fun e w' ⟨h1, h2, h3⟩ => ⟨_, h1, ⟨_, ⟨rng_lo L k lo hi, rng_hi L k lo hi hl⟩, rfl⟩, h2, h3⟩
theorem flip_T {n : Int} (hn : n ≤ 1000000000) : SpecT Tryz.prog (TT p L) (fun b => b = p) 10 [sp p, avI n] 1 (fun y => ∃ r : Bool, y = avB r) :=
 SpecT.of_Calls (fun w A us h => args2 h) fun w k hk hs => (flip_any p L k n w hs hk hn).mono fun e w' ⟨h1, h2, h3⟩ => ⟨_, h1, ⟨_, rfl⟩, h2, h3⟩
end

def AllI (lo hi : Int) : List AV → Prop
 | [] => True
 | x :: r => (∃ i : Int, (lo ≤ i ∧ i ≤ hi) ∧ x = avI i) ∧ AllI lo hi r
theorem AllI.nil {lo hi : Int} : AllI lo hi [] := trivial
theorem AllI.cons {lo hi i : Int} {r : List AV} (h : lo ≤ i ∧ i ≤ hi) (hr : AllI lo hi r) : AllI lo hi (avI i :: r) := ⟨⟨i, h, rfl⟩, hr⟩
theorem AllI.get {lo hi : Int} : ∀ {l : List AV} {q : Nat}, AllI lo hi l → q < l.length → ∃ i : Int, (lo ≤ i ∧ i ≤ hi) ∧ l.getD q .any = avI i
 | [], q, _, h => by simp at h
 | x :: r, 0, h, _ => by simpa using h.1
 | x :: r, q + 1, h, hq => by simpa using AllI.get h.2 (by simpa using hq)
def AllX : List AV → Prop
 | [] => True
 | x :: r => (∃ i : Int, x = avI i) ∧ AllX r
theorem AllX.nil : AllX [] := trivial
theorem AllX.cons {i : Int} {r : List AV} (hr : AllX r) : AllX (avI i :: r) := ⟨⟨i, rfl⟩, hr⟩
theorem AllX.get : ∀ {l : List AV} {q : Nat}, AllX l → q < l.length → ∃ i : Int, l.getD q .any = avI i
 | [], q, _, h => by simp at h
 | x :: r, 0, h, _ => by simpa using h.1
 | x :: r, q + 1, h, hq => by simpa using AllX.get h.2 (by simpa using hq)
def AllS (m : Nat) : List AV → Prop
 | [] => True
 | x :: r => (∃ i : ByteArray, i.size ≤ m ∧ x = avS i) ∧ AllS m r
theorem AllS.nil {m : Nat} : AllS m [] := trivial
theorem AllS.cons {m : Nat} {i : ByteArray} {r : List AV} (h : i.size ≤ m) (hr : AllS m r) : AllS m (avS i :: r) := ⟨⟨i, h, rfl⟩, hr⟩
theorem AllS.get {m : Nat} : ∀ {l : List AV} {q : Nat}, AllS m l → q < l.length → ∃ i : ByteArray, i.size ≤ m ∧ l.getD q .any = avS i
 | [], q, _, h => by simp at h
 | x :: r, 0, h, _ => by simpa using h.1
 | x :: r, q + 1, h, hq => by simpa using AllS.get h.2 (by simpa using hq)



set_option maxRecDepth 100000 in
theorem pick_T {p : Nat} {L : List Int} {n : Nat} {l : List AV} (lo hi : Int) (hn : l.length = n) (h0 : 0 < n) (h1 : n ≤ 1000) (hall : AllI lo hi l) :
  SpecT Tryz.prog (TT p L) (fun b => b = p) 38 [sp p, .im n 1 fun j => l.getD j .any] 1 (fun y => ∃ r : Int, (lo ≤ r ∧ r ≤ hi) ∧ y = avI r) := by
 refine SpecT.of_VC Tryz.func38 rfl Tryz.ntmps38 (Nle rfl) (low := (fun b => b ≤ p)) (fun w A k h => h.ok) fun w A k hk hB => ?_
 have hnew : True := trivial
 refine VC.sr ?_
 refine VO.ma rfl rfl rfl rfl ?_
 refine VO.nil ?_
 refine VC.sr ?_
 refine VO.mv rfl rfl rfl rfl ?_
 refine VO.mv rfl rfl rfl rfl ?_
 refine VO.mv rfl rfl rfl rfl ?_
 refine VO.val rfl rfl (OpV.len_im rfl Tryz.underlying22 rfl) ?_
 refine VO.op rfl (OpE.callT' (k) rfl rfl hB rfl Tryz.call69 rfl ((next_T (by omega))) (by omega) ?_)
 rintro _ ⟨r9, hr9, rfl⟩
 refine VO.val rfl rfl (OpV.indexAddr_1 rfl Tryz.underlying22 Tryz.sizeOf3 rfl rfl (Int.toNat_of_nonneg (by omega)).symm (by omega)) ?_
 refine VO.val rfl rfl (OpV.load_at rfl hB OutW.no Tryz.isAgg3 rfl rfl) ?_
 refine VO.ma rfl rfl rfl rfl ?_
 refine VO.nil ?_
 refine VC.ret ?_
 exact Exists.intro _ (And.intro (RetV.one Tryz.results38 (ResV.tmp rfl)) (And.intro (hall.get (by omega)) ((show k + 1 ≤ k + 1 by omega))))
set_option maxRecDepth 100000 in
theorem pick_X {p : Nat} {L : List Int} {n : Nat} {l : List AV} (hn : l.length = n) (h0 : 0 < n) (h1 : n ≤ 1000) (hall : AllX l) :
  SpecT Tryz.prog (TT p L) (fun b => b = p) 38 [sp p, .im n 1 fun j => l.getD j .any] 1 (fun y => ∃ r : Int, y = avI r) := by
 refine SpecT.of_VC Tryz.func38 rfl Tryz.ntmps38 (Nle rfl) (low := (fun b => b ≤ p)) (fun w A k h => h.ok) fun w A k hk hB => ?_
 have hnew : True := trivial
 refine VC.sr ?_
 refine VO.ma rfl rfl rfl rfl ?_
 refine VO.nil ?_
 refine VC.sr ?_
 refine VO.mv rfl rfl rfl rfl ?_
 refine VO.mv rfl rfl rfl rfl ?_
 refine VO.mv rfl rfl rfl rfl ?_
 refine VO.val rfl rfl (OpV.len_im rfl Tryz.underlying22 rfl) ?_
 refine VO.op rfl (OpE.callT' (k) rfl rfl hB rfl Tryz.call69 rfl ((next_T (by omega))) (by omega) ?_)
 rintro _ ⟨r9, hr9, rfl⟩
 refine VO.val rfl rfl (OpV.indexAddr_1 rfl Tryz.underlying22 Tryz.sizeOf3 rfl rfl (Int.toNat_of_nonneg (by omega)).symm (by omega)) ?_
 refine VO.val rfl rfl (OpV.load_at rfl hB OutW.no Tryz.isAgg3 rfl rfl) ?_
 refine VO.ma rfl rfl rfl rfl ?_
 refine VO.nil ?_
 refine VC.ret ?_
 exact Exists.intro _ (And.intro (RetV.one Tryz.results38 (ResV.tmp rfl)) (And.intro (hall.get (by omega)) ((show k + 1 ≤ k + 1 by omega))))
set_option maxRecDepth 100000 in
theorem some_T {p : Nat} {L : List Int} {n : Nat} {l : List AV} (m : Nat) (hn : l.length = n) (h0 : 0 < n) (h1 : n ≤ 1000) (hall : AllS m l) :
  SpecT Tryz.prog (TT p L) (fun b => b = p) 70 [sp p, .im n 1 fun j => l.getD j .any] 1 (fun y => ∃ r : ByteArray, r.size ≤ m ∧ y = avS r) := by
 refine SpecT.of_VC Tryz.func70 rfl Tryz.ntmps70 (Nle rfl) (low := (fun b => b ≤ p)) (fun w A k h => h.ok) fun w A k hk hB => ?_
 have hnew : True := trivial
 refine VC.sr ?_
 refine VO.ma rfl rfl rfl rfl ?_
 refine VO.nil ?_
 refine VC.sr ?_
 refine VO.mv rfl rfl rfl rfl ?_
 refine VO.mv rfl rfl rfl rfl ?_
 refine VO.mv rfl rfl rfl rfl ?_
 refine VO.val rfl rfl (OpV.len_im rfl Tryz.underlying40 rfl) ?_
 refine VO.op rfl (OpE.callT' (k) rfl rfl hB rfl Tryz.call69 rfl ((next_T (by omega))) (by omega) ?_)
 rintro _ ⟨r9, hr9, rfl⟩
 refine VO.val rfl rfl (OpV.indexAddr_1 rfl Tryz.underlying40 Tryz.sizeOf9 rfl rfl (Int.toNat_of_nonneg (by omega)).symm (by omega)) ?_
 refine VO.val rfl rfl (OpV.load_at rfl hB OutW.no Tryz.isAgg9 rfl rfl) ?_
 refine VO.ma rfl rfl rfl rfl ?_
 refine VO.nil ?_
 refine VC.ret ?_
 exact Exists.intro _ (And.intro (RetV.one Tryz.results70 (ResV.tmp rfl)) (And.intro (hall.get (by omega)) ((show k + 1 ≤ k + 1 by omega))))


end Go.Proofs.YtemnnmohdpabhaaGreatDoor
namespace Go.Proofs.YtemnnmohdpabhaaGreatDoor
open Go.RowKit
set_option linter.unusedVariables false
set_option linter.unusedSimpArgs false

inductive EqFs (P : Program) : Nat → List Field → List AV → List AV → Bool → Prop where
 | nil (off : Nat) : EqFs P off [] [] [] true
 | int {off : Nat} {f : Field} {fs : List Field} {k k' : IntKind} {a b : Int} {xs ys : List AV} {r : Bool} (hu : P.underlying f.type = some (.int k')) (hag : ∀ w, (isAgg f.type).run P w = .ok false w) (ho : f.offset = off) (hn : f.name ≠ "_") (h : EqFs P (off + 1) fs xs ys r) :
   EqFs P off (f :: fs) (.v (.int k a) :: xs) (.v (.int k b) :: ys) (decide (a = b) && r)
 | str {off : Nat} {f : Field} {fs : List Field} {a b : ByteArray} {xs ys : List AV} {r : Bool} (hu : P.underlying f.type = some .string) (hag : ∀ w, (isAgg f.type).run P w = .ok false w) (ho : f.offset = off) (hn : f.name ≠ "_") (h : EqFs P (off + 1) fs xs ys r) :
   EqFs P off (f :: fs) (.v (.string a) :: xs) (.v (.string b) :: ys) (sEq a b && r)
 | bool {off : Nat} {f : Field} {fs : List Field} {a b : Bool} {xs ys : List AV} {r : Bool} (hu : P.underlying f.type = some .bool) (hag : ∀ w, (isAgg f.type).run P w = .ok false w) (ho : f.offset = off) (hn : f.name ≠ "_") (h : EqFs P (off + 1) fs xs ys r) :
   EqFs P off (f :: fs) (.v (.bool a) :: xs) (.v (.bool b) :: ys) ((a == b) && r)

theorem EqFs.run {P : Program} {w : World} {Z : Nat → Prop} {us vs : Array Value} {d : Nat} : ∀ {off : Nat} {fs : List Field} {xs ys : List AV} {r : Bool}, EqFs P off fs xs ys r →
  (∀ j, (h : j < xs.length) → off + j < us.size ∧ Rep w Z xs[j] (us.getD (off + j) undef)) → (∀ j, (h : j < ys.length) → off + j < vs.size ∧ Rep w Z ys[j] (vs.getD (off + j) undef)) → ∀ w', (Op.eqFields (d + 1) us vs fs).run P w' = .ok r w' := by
 intro off fs xs ys r h
 have cellP : ∀ (t : TypeId) (us : Array Value) (off : Nat) (v : Value) (w' : World), (∀ w, (isAgg t).run P w = .ok false w) → off < us.size → us.getD off undef = v → (part t us off).run P w' = .ok v w' := fun t us off v w' hag hl hv => by
  have : us[off]? = some v := by rw [← hv, Array.getD_eq_getD_getElem?, Array.getElem?_eq_getElem hl]; rfl
  simp [part, hag, this]
 have sh : ∀ n j : Nat, n + (j + 1) = n + 1 + j := fun n j => by omega
 induction h with
 | nil off => intro _ _ w'; rfl
 | int hu hag ho hn h ih =>
  intro h1 h2 w'
  obtain ⟨k1, k2⟩ := h1 0 (by simp)
  obtain ⟨k3, k4⟩ := h2 0 (by simp)
  subst ho
  have e1 := cellP _ us _ _ w' hag k1 k2.eq_v
  have e2 := cellP _ vs _ _ w' hag k3 k4.eq_v
  have ih' := ih (fun j hj => by have := h1 (j + 1) (by simpa using hj); rw [sh] at this; exact this) (fun j hj => by have := h2 (j + 1) (by simpa using hj); rw [sh] at this; exact this) w'
  simp only [Nat.add_zero] at e1 e2
  rename_i a b _ _ _
  have e3 := fun k => run_equalIn_int (P := P) w' d _ k _ a b hu
  simp only [Op.eqFields, hn, ne_eq, not_false_eq_true, if_true, Sem.run_bind, e1, e2, e3, Result.andThen_ok]
  by_cases hab : a = b
  ·subst hab; simpa using ih'
  ·simp [hab]
 | str hu hag ho hn h ih =>
  intro h1 h2 w'
  obtain ⟨k1, k2⟩ := h1 0 (by simp)
  obtain ⟨k3, k4⟩ := h2 0 (by simp)
  subst ho
  have e1 := cellP _ us _ _ w' hag k1 k2.eq_v
  have e2 := cellP _ vs _ _ w' hag k3 k4.eq_v
  have ih' := ih (fun j hj => by have := h1 (j + 1) (by simpa using hj); rw [sh] at this; exact this) (fun j hj => by have := h2 (j + 1) (by simpa using hj); rw [sh] at this; exact this) w'
  simp only [Nat.add_zero] at e1 e2
  rename_i a b _ _ _
  have e3 := run_equalIn_string (P := P) w' d _ a b hu
  simp only [Op.eqFields, hn, ne_eq, not_false_eq_true, if_true, Sem.run_bind, e1, e2, e3, Result.andThen_ok]
  cases hab : sEq a b with
  | true => unfold sEq at hab; rw [hab]; simpa using ih'
  | false => unfold sEq at hab; rw [hab]; simp
 | bool hu hag ho hn h ih =>
  intro h1 h2 w'
  obtain ⟨k1, k2⟩ := h1 0 (by simp)
  obtain ⟨k3, k4⟩ := h2 0 (by simp)
  subst ho
  have e1 := cellP _ us _ _ w' hag k1 k2.eq_v
  have e2 := cellP _ vs _ _ w' hag k3 k4.eq_v
  have ih' := ih (fun j hj => by have := h1 (j + 1) (by simpa using hj); rw [sh] at this; exact this) (fun j hj => by have := h2 (j + 1) (by simpa using hj); rw [sh] at this; exact this) w'
  simp only [Nat.add_zero] at e1 e2
  rename_i a b _ _ _
  have e3 := run_equalIn_bool' (P := P) w' d _ a b hu
  simp only [Op.eqFields, hn, ne_eq, not_false_eq_true, if_true, Sem.run_bind, e1, e2, e3, Result.andThen_ok]
  cases hab : (a == b) with
  | true => simpa using ih'
  | false => simp

section
variable {P : Program} {B : Bs} {W : Nat → Prop} {s : St'} {o : Oper}
end
end Go.Proofs.YtemnnmohdpabhaaGreatDoor
namespace Go.Proofs.YtemnnmohdpabhaaGreatDoor
open Go.RowKit
set_option linter.unusedVariables false
set_option linter.unusedSimpArgs false

def mpos {κ α : Type} [DecidableEq κ] : List (κ × α) → κ → Nat
 | [], _ => 0
 | p :: r, k => if k = p.1 then 0 else mpos r k + 1
section
variable {κ α : Type} {kv : κ → Value} {E : α → AV}
variable [DecidableEq κ]
end

structure KeyOk (P : Program) (kt : TypeId) {κ : Type} [DecidableEq κ] (kv : κ → Value) : Prop where
 check : ∀ (e : Bool) (k : κ) (w : World), (Instr.checkKey e 10000 kt (kv k)).run P w = .ok () w
 find : ∀ {α : Type} (l : List (κ × α)) (c : List MapEntry) (k : κ) (w : World), c.length = l.length → (∀ j (h : j < l.length), ∃ e, c[j]? = some e ∧ e.key = kv (l[j]).1) →
  (Instr.findKey kt (kv k) c).run P w = .ok (if mpos l k < l.length then (c[mpos l k]?).map fun e => (mpos l k, e.val) else none) w
 stay : ∀ (k : κ) (w : World), (Instr.keyThatStays (kv k) (kv k)).run P w = .ok (kv k) w
theorem findNow_str {α : Type} : ∀ (l : List (ByteArray × α)) (c : List MapEntry) (k : ByteArray), c.length = l.length → (∀ j (h : j < l.length), ∃ e, c[j]? = some e ∧ e.key = .string (l[j]).1) →
  ∀ i, Instr.findNow .string (.string k) c i = some (if mpos l k < l.length then (c[mpos l k]?).map fun e => (i + mpos l k, e.val) else none)
 | [], c, k, hl, h, i => by
  have : c = [] := List.eq_nil_of_length_eq_zero (by simpa using hl)
  subst this; rfl
 | p :: r, [], k, hl, h, i => by simp at hl
 | p :: r, e :: c, k, hl, h, i => by
  obtain ⟨e0, h1, h2⟩ := h 0 (by simp)
  simp at h1 h2
  subst h1
  simp only [Instr.findNow, h2, Instr.sameNow]
  by_cases ek : k = p.1
  ·have : (k == p.1) = true := by rw [bA_beq]; exact decide_eq_true ek
   rw [this]
   simp [mpos, ek]
  ·have : (k == p.1) = false := by rw [bA_beq]; exact decide_eq_false ek
   rw [this]
   simp only
   rw [findNow_str r c k (by simpa using hl) (fun j hj => h (j + 1) (Nat.succ_lt_succ hj)) (i + 1)]
   simp only [mpos, if_neg ek, List.length_cons, Nat.add_lt_add_iff_right, List.getElem?_cons_succ]
   rw [show i + 1 + mpos r k = i + (mpos r k + 1) by omega]
theorem KeyOk.str {P : Program} {kt : TypeId} (hk : P.underlying kt = some .string) : KeyOk P kt (fun k : ByteArray => Value.string k) where
 check e k w := by
  rw [show (10000 : Nat) = 9999 + 1 from rfl, Instr.checkKey]
  simp only [Sem.run_bind, run_underlying hk, Result.andThen_ok, Sem.run_pure]
 find l c k w hl h := by
  have := findNow_str l c k hl h 0
  simp only [Nat.zero_add] at this
  simp only [Instr.findKey, Sem.run_bind, run_underlying hk, Result.andThen_ok, this, Sem.run_pure]
 stay k w := by
  have : Instr.sameBits 10000 (.string k) (.string k) = true := by
   simp only [Instr.sameBits, bA_beq, decide_true]
  simp [Instr.keyThatStays, this]
end Go.Proofs.YtemnnmohdpabhaaGreatDoor
namespace Go.Proofs.YtemnnmohdpabhaaGreatDoor
open Go.RowKit
set_option linter.unusedVariables false
set_option linter.unusedSimpArgs false

section
variable {P : Program} {B : Bs} {W : Nat → Prop} {s s' : St'} {o : Oper} {K : St' → Prop} {a : Act} {w w' : World}
variable {κ α : Type} {kv : κ → Value} {E : α → AV}

def KeyE (B : Bs) (s : St') (x : Operand) (v : Value) : Prop := ∀ a w, R B s a w → a.eval x = v
theorem KeyE.v {x : Operand} {v : Value} (h : evO s x = some (.v v)) : KeyE B s x v := fun a w hr => hr.evv h
end
end Go.Proofs.YtemnnmohdpabhaaGreatDoor
namespace Go.Proofs.YtemnnmohdpabhaaGreatDoor
open Go.RowKit
set_option linter.unusedVariables false
set_option linter.unusedSimpArgs false

structure LookS where
 board : ByteArray
 name : ByteArray
 at_ : Int
 verdict : Int
 bad : Bool
 machine : ByteArray
 nozzle : ByteArray
 reel : ByteArray
instance : Inhabited LookS := ⟨⟨ByteArray.empty, ByteArray.empty, 0, 0, false, ByteArray.empty, ByteArray.empty, ByteArray.empty⟩⟩
instance : Sxc LookS where
 k := 8
 pos := by decide
 cell m j := match j with
  | 0 => avS m.board
  | 1 => avS m.name
  | 2 => avI m.at_
  | 3 => avI m.verdict
  | 4 => avB m.bad
  | 5 => avS m.machine
  | 6 => avS m.nozzle
  | 7 => avS m.reel
  | _ => .any
def cmpI (a b : Int) : Int := if a < b then -1 else if b < a then 1 else 0
section
variable {l : List LookS} {i : Nat}
end
end Go.Proofs.YtemnnmohdpabhaaGreatDoor
namespace Go.Proofs.YtemnnmohdpabhaaGreatDoor
open Go.RowKit
set_option linter.unusedVariables false
set_option linter.unusedSimpArgs false
set_option maxRecDepth 100000 in
theorem cmp_isNaN_int {a : Int}  :
  SpecN Tryz.prog 172 [avI a] (fun y => y = avB false) := by
 refine SpecN.of_VCN Tryz.func172 rfl Tryz.ntmps172 (Nle rfl) fun w A hB => ?_
 have hnew : True := trivial
 refine VC.sr ?_
 refine VO.ma rfl rfl rfl rfl ?_
 refine VO.nil ?_
 refine VC.sr ?_
 refine VO.mv rfl rfl rfl rfl ?_
 refine VO.mv rfl rfl rfl rfl ?_
 refine VO.val rfl rfl (OpV.neq rfl rfl rfl) ?_
 refine VO.ma rfl rfl rfl rfl ?_
 refine VO.nil ?_
 refine VC.ret ?_
 exact Exists.intro _ (And.intro (RetN.one Tryz.results172 (ResN.v rfl)) (by simp))
set_option maxRecDepth 100000 in
theorem cmp_Compare_int {a b : Int}  :
  SpecN Tryz.prog 76 [avI a, avI b] (fun y => y = avI (cmpI a b)) := by
 refine SpecN.of_VCN Tryz.func76 rfl Tryz.ntmps76 (Nle rfl) fun w A hB => ?_
 have hnew : True := trivial
 refine VC.sr ?_
 refine VO.ma rfl rfl rfl rfl ?_
 refine VO.nil ?_
 refine VC.sr ?_
 refine VO.mv rfl rfl rfl rfl ?_
 refine VO.op rfl (OpE.call rfl hB rfl Tryz.call172 rfl (SpecN.spec (cmp_isNaN_int)) ?_)
 rintro _ rfl
 refine VO.ma rfl rfl rfl rfl ?_
 refine VO.nil ?_
 refine VC.sr ?_
 refine VO.mv rfl rfl rfl rfl ?_
 refine VO.op rfl (OpE.call rfl hB rfl Tryz.call172 rfl (SpecN.spec (cmp_isNaN_int)) ?_)
 rintro _ rfl
 refine VO.ma rfl rfl rfl rfl ?_
 refine VO.nil ?_
 refine VC.seq ?_
 refine VC.sr ?_
 refine VO.mv rfl rfl rfl rfl ?_
 refine VO.nil ?_
 refine VC.condF rfl rfl ?_
 refine VC.skip ?_
 refine VC.seq ?_
 refine VC.sr ?_
 refine VO.mv rfl rfl rfl rfl ?_
 refine VO.nil ?_
 refine VC.condF rfl rfl ?_
 refine VC.skip ?_
 refine VC.seq ?_
 refine VC.sr ?_
 refine VO.mv rfl rfl rfl rfl ?_
 refine VO.mv rfl rfl rfl rfl ?_
 refine VO.val rfl rfl (OpV.lss rfl rfl rfl) ?_
 refine VO.nil ?_
 refine VC.cond rfl (fun aH1b => ?_) (fun aH1b => ?_)
 ·have aH1 := aH1b
  try simp only [qqT, qqF, qqN, qqM, qqL, qqE] at aH1
  refine VC.sr ?_
  refine VO.ma rfl rfl rfl rfl ?_
  refine VO.nil ?_
  refine VC.ret ?_
  exact Exists.intro _ (And.intro (RetN.one Tryz.results76 (ResN.v rfl)) (by rw [cmpI, if_pos (by assumption)]))
 ·have aH1 := aH1b
  try simp only [qqT, qqF, qqN, qqM, qqL, qqE] at aH1
  refine VC.skip ?_
  refine VC.seq ?_
  refine VC.sr ?_
  refine VO.mv rfl rfl rfl rfl ?_
  refine VO.mv rfl rfl rfl rfl ?_
  refine VO.val rfl rfl (OpV.gtr rfl rfl rfl) ?_
  refine VO.nil ?_
  refine VC.cond rfl (fun aH2b => ?_) (fun aH2b => ?_)
  ·have aH2 := aH2b
   try simp only [qqT, qqF, qqN, qqM, qqL, qqE] at aH2
   refine VC.sr ?_
   refine VO.ma rfl rfl rfl rfl ?_
   refine VO.nil ?_
   refine VC.ret ?_
   exact Exists.intro _ (And.intro (RetN.one Tryz.results76 (ResN.v rfl)) (by rw [cmpI, if_neg (by omega), if_pos (by assumption)]))
  ·have aH2 := aH2b
   try simp only [qqT, qqF, qqN, qqM, qqL, qqE] at aH2
   refine VC.skip ?_
   refine VC.sr ?_
   refine VO.ma rfl rfl rfl rfl ?_
   refine VO.nil ?_
   refine VC.ret ?_
   exact Exists.intro _ (And.intro (RetN.one Tryz.results76 (ResN.v rfl)) (by rw [cmpI, if_neg (by omega), if_neg (by omega)]))
set_option maxRecDepth 100000 in
theorem cmp_Or_int {xs : List Int} (hl : xs.length ≤ 1000000000) :
  SpecN Tryz.prog 75 [avInts xs] (fun y => y = avI (errsF xs)) := by
 refine SpecN.of_VCN Tryz.func75 rfl Tryz.ntmps75 (Nle rfl) fun w A hB => ?_
 have hnew : True := trivial
 refine VC.sr ?_
 refine VO.ma rfl rfl rfl rfl ?_
 refine VO.nil ?_
 refine VC.sr ?_
 refine VO.ma rfl rfl rfl rfl ?_
 refine VO.nil ?_
 refine VC.seq ?_
 refine VC.sr ?_
 refine VO.mv rfl rfl rfl rfl ?_
 refine VO.val rfl rfl (OpV.len_im rfl Tryz.underlying22 rfl) ?_
 refine VO.mv rfl rfl rfl rfl ?_
 refine VO.nil ?_
 refine VC.block ?_
 refine VC.loopK [(3, _), (6, _), (7, _)] ⟨rfl, rfl, rfl, trivial⟩ ({q : Nat // q ≤ xs.length ∧ ∀ j, j < q → xs.getD j 0 = 0}) (fun (iZ : {q : Nat // q ≤ xs.length ∧ ∀ j, j < q → xs.getD j 0 = 0}) => match iZ with | ⟨q, hq, hn⟩ => [(8, avI (q : Int))]) (fun (iZ : {q : Nat // q ≤ xs.length ∧ ∀ j, j < q → xs.getD j 0 = 0}) => match iZ with | ⟨q, hq, hn⟩ => []) (fun (iZ : {q : Nat // q ≤ xs.length ∧ ∀ j, j < q → xs.getD j 0 = 0}) => match iZ with | ⟨q, hq, hn⟩ => 0) (fun (iZ : {q : Nat // q ≤ xs.length ∧ ∀ j, j < q → xs.getD j 0 = 0}) => match iZ with | ⟨q, hq, hn⟩ => xs.length - q) ⟨0, Nat.zero_le _, fun j hj => absurd hj (Nat.not_lt_zero j)⟩ (Le.mk hB [] ⟨rfl, rfl, rfl, rfl, trivial⟩ rfl rfl (Nat.le_refl _)) ?_
 rintro ⟨q, hq, hn⟩
 show VC _ _ _ _ ⟨[(8, avI (q : Int))] ++ [(3, _), (6, _), (7, _)], [], 0⟩
 refine VC.sr ?_
 refine VO.val rfl rfl (OpV.lss rfl rfl rfl) ?_
 refine VO.nil ?_
 refine VC.seq ?_
 refine VC.cond rfl (fun aH1b => ?_) (fun aH1b => ?_)
 ·have aH1 := aH1b
  try simp only [qqT, qqF, qqN, qqM, qqL, qqE] at aH1
  refine VC.skip ?_
  refine VC.seq ?_
  refine VC.block ?_
  refine VC.sr ?_
  refine VO.val rfl rfl (OpV.indexAddr_1 rfl Tryz.underlying22 Tryz.sizeOf3 rfl rfl rfl (by omega)) ?_
  refine VO.val rfl rfl (OpV.load_at rfl hB OutW.no Tryz.isAgg3 rfl rfl) ?_
  refine VO.ma rfl rfl rfl rfl ?_
  refine VO.nil ?_
  refine VC.sr ?_
  refine VO.mv rfl rfl rfl rfl ?_
  refine VO.mv rfl rfl rfl rfl ?_
  refine VO.val rfl rfl (OpV.neq rfl rfl rfl) ?_
  refine VO.nil ?_
  refine VC.cond rfl (fun h1b => ?_) (fun h1b => ?_)
  ·have h1 := h1b
   try simp only [qqT, qqF, qqN, qqM, qqL, qqE] at h1
   refine VC.sr ?_
   refine VO.mv rfl rfl rfl rfl ?_
   refine VO.ma rfl rfl rfl rfl ?_
   refine VO.nil ?_
   refine VC.ret ?_
   exact Exists.intro _ (And.intro (RetN.one Tryz.results75 (ResN.v rfl)) (by rw [errsF_at (q := q) (by omega) hn h1]))
  ·have h1 := h1b
   try simp only [qqT, qqF, qqN, qqM, qqL, qqE] at h1
   refine VC.skip ?_
   refine VC.region ?_
   refine VO.val rfl rfl (OpV.add rfl rfl rfl (by unfold fits; omega)) ?_
   refine VO.mv rfl rfl rfl rfl ?_
   refine VO.nil ?_
   exact Exists.intro (⟨q + 1, by omega, lt_succ_cases hn ((by omega))⟩) (And.intro (Le.mk hB [] ⟨rfl, rfl, rfl, rfl, trivial⟩ rfl rfl (Nat.le_refl _)) (by first | omega | (show _ < _; omega) | (simp only []; omega)))
 ·have aH1 := aH1b
  try simp only [qqT, qqF, qqN, qqM, qqL, qqE] at aH1
  refine VC.exit ?_
  refine VC.sr ?_
  refine VO.mv rfl rfl rfl rfl ?_
  refine VO.ma rfl rfl rfl rfl ?_
  refine VO.nil ?_
  refine VC.ret ?_
  exact Exists.intro _ (And.intro (RetN.one Tryz.results75 (ResN.v rfl)) (by rw [errsF_none (fun j hj => hn j (by omega))]))
end Go.Proofs.YtemnnmohdpabhaaGreatDoor
namespace Go.Proofs.YtemnnmohdpabhaaGreatDoor
open Go.RowKit Go.Sort
set_option linter.unusedVariables false
set_option linter.unusedSimpArgs false
theorem isNaN_x (a : Int) (w : World) : Calls Tryz.prog 172 #[.int .i64 a] w fun e w' => e = .returned (.bool false) ∧ w' = w := by
 go_enter Tryz.func172, Tryz.ntmps172
 go_wp2_with fail
 go_ret
 exact ⟨ret_bool (by simp), rfl⟩
theorem cmpI_x (a b : Int) (w : World) : Calls Tryz.prog 76 #[.int .i64 a, .int .i64 b] w fun e w' => e = .returned (.int .i64 (cmpI a b)) ∧ w' = w := by
 go_enter Tryz.func76, Tryz.ntmps76
 by_cases h1 : a < b
 ·go_wp2_with (go_at_call 172; refine (isNaN_x _ _).mono ?_; rintro e w' ⟨rfl, rfl⟩)
  go_ret
  exact ⟨ret_int (by unfold cmpI; (repeat' split) <;> omega), rfl⟩
 ·by_cases h2 : b < a
  ·go_wp2_with (go_at_call 172; refine (isNaN_x _ _).mono ?_; rintro e w' ⟨rfl, rfl⟩)
   go_ret
   exact ⟨ret_int (by unfold cmpI; (repeat' split) <;> omega), rfl⟩
  ·go_wp2_with (go_at_call 172; refine (isNaN_x _ _).mono ?_; rintro e w' ⟨rfl, rfl⟩)
   go_ret
   exact ⟨ret_int (by unfold cmpI; (repeat' split) <;> omega), rfl⟩
theorem strCmp_x (a b : ByteArray) (w : World) : Calls Tryz.prog 77 #[.string a, .string b] w fun e w' => e = .returned (.int .i64 (cmpB a b)) ∧ w' = w := Tryz.strings_Compare a b w
set_option maxHeartbeats 400000 in
theorem cmpOr_x (x y : Int) (g off cap : Nat) (w : World) (h0 : w.cell? ⟨g, off, none⟩ = some (.int .i64 x)) (h1 : w.cell? ⟨g, off + 1, none⟩ = some (.int .i64 y)) :
  Calls Tryz.prog 75 #[.slice (some ⟨g, off, none⟩) 2 cap] w fun e w' => e = .returned (.int .i64 (errsF [x, y])) ∧ w' = w := by
 go_enter Tryz.func75, Tryz.ntmps75
 by_cases hx : x = 0
 ·subst hx
  by_cases hy : y = 0
  ·subst hy
   go_wp2_with fail
   refine wp_loop_rounds 3 ?_
   rw [rounds_succ]
   go_wp2_with fail
   rw [rounds_succ]
   go_wp2_with fail
   rw [rounds_succ]
   go_wp2_with fail
   go_ret
   exact ⟨rfl, rfl⟩
  ·go_wp2_with fail
   refine wp_loop_rounds 2 ?_
   rw [rounds_succ]
   go_wp2_with fail
   rw [rounds_succ]
   go_wp2_with fail
   go_ret
   exact ⟨ret_int (by simp [errsF, hy]), rfl⟩
 ·go_wp2_with fail
  refine wp_loop_rounds 1 ?_
  rw [rounds_succ]
  go_wp2_with fail
  go_ret
  exact ⟨ret_int (by simp [errsF, hx]), rfl⟩
end Go.Proofs.YtemnnmohdpabhaaGreatDoor
namespace Go.Proofs.YtemnnmohdpabhaaGreatDoor
open Go.RowKit
set_option linter.unusedVariables false
set_option linter.unusedSimpArgs false

def hasK (m : Mach) (v : ByteArray) : Bool := m.can.any fun x => sEq v x
def planE (ms : List Mach) (ns : List NeedS) (plan : List Int) (i : Nat) : Int :=
 if plan.getD i 0 < 0 ∨ (ms.length : Int) ≤ plan.getD i 0 then 8
 else if hasK (ms.getD (plan.getD i 0).toNat default) (ns.getD i default).key = false then 4 else 0
def cnt (plan : List Int) (k : Nat) : Nat → Int
 | 0 => 0
 | r + 1 => cnt plan k r + if plan.getD r 0 = (k : Int) then 1 else 0
theorem cnt_le (plan : List Int) (k : Nat) : ∀ r, 0 ≤ cnt plan k r ∧ cnt plan k r ≤ r
 | 0 => ⟨Int.le_refl _, Int.le_refl _⟩
 | r + 1 => by
  have := cnt_le plan k r
  rw [cnt]
  split <;> omega
def overE (ms : List Mach) (plan : List Int) (k : Nat) : Int := if (ms.getD k default).feeders < cnt plan k plan.length then 12 else 0
def planF (ms : List Mach) (ns : List NeedS) (plan : List Int) : Int :=
 if plan.length ≠ ns.length then 3
 else if firstE (planE ms ns plan) plan.length ≠ 0 then firstE (planE ms ns plan) plan.length
 else firstE (overE ms plan) ms.length
theorem planF_0 {ms : List Mach} {ns : List NeedS} {plan : List Int} (h : plan.length = ns.length) (hn : ∀ j, j < plan.length → planE ms ns plan j = 0) (ho : ∀ k, k < ms.length → cnt plan k plan.length ≤ (ms.getD k default).feeders) : planF ms ns plan = 0 := by
 rw [planF, if_neg (by omega), firstE_none hn, if_neg (by decide)]
 refine firstE_none fun k hk => ?_
 rw [overE, if_neg (by have := ho k hk; omega)]
theorem planE_ok {ms : List Mach} {ns : List NeedS} {plan : List Int} {i : Nat} (h : planE ms ns plan i = 0) : ∃ k : Nat, plan.getD i 0 = (k : Int) ∧ k < ms.length := by
 rw [planE] at h
 split at h
 ·cases h
 ·exact ⟨(plan.getD i 0).toNat, by omega, by omega⟩
theorem planE_0 {ms : List Mach} {ns : List NeedS} {plan : List Int} {i : Nat} (h : ¬ (plan.getD i 0 < 0 ∨ (ms.length : Int) ≤ plan.getD i 0)) (h2 : hasK (ms.getD (plan.getD i 0).toNat default) (ns.getD i default).key = true) : planE ms ns plan i = 0 := by rw [planE, if_neg h, if_neg (by rw [h2]; simp)]
theorem machF_len {ms : List Mach} (h : machF ms = 0) : 0 < ms.length ∧ ms.length ≤ 6 := by
 rw [machF] at h
 split at h
 ·cases h
 ·split at h
  ·cases h
  ·omega
theorem machF_each {ms : List Mach} (h : machF ms = 0) {i : Nat} (hi : i < ms.length) : ((0 ≤ (ms.getD i default).each ∧ (ms.getD i default).each ≤ 10000000) ∧ (0 ≤ (ms.getD i default).fixed ∧ (ms.getD i default).fixed ≤ 10000000) ∧ (0 ≤ (ms.getD i default).feeders ∧ (ms.getD i default).feeders ≤ 100)) ∧ canF (ms.getD i default).can = 0 := by
 obtain ⟨l1, l2⟩ := machF_len h
 rw [machF, if_neg (by omega), if_neg (by omega)] at h
 have := firstE_zero h i hi
 rw [machE] at this
 split at this
 ·cases this
 ·split at this
  ·cases this
  ·split at this
   ·cases this
   ·rename_i h1 h2 h3
    refine ⟨?_, this⟩
    have h3' := Bool.eq_false_iff.2 h3
    rw [Bool.or_eq_false_iff, Bool.or_eq_false_iff] at h3'
    simp only [outR, Bool.or_eq_false_iff, decide_eq_false_iff_not] at h3'
    omega
structure SmallM (ms : List Mach) : Prop where
 l : ms.length ≤ 1000000000
 k : ∀ i, (ms.getD i default).key.size ≤ 1000000000
 c : ∀ i, (ms.getD i default).can.length ≤ 1000000000
 s : ∀ i j, ((ms.getD i default).can.getD j ByteArray.empty).size ≤ 1000000000
structure SmallN (ns : List NeedS) : Prop where
 l : ns.length ≤ 1000000000
 k : ∀ i, (ns.getD i default).key.size ≤ 1000000000
end Go.Proofs.YtemnnmohdpabhaaGreatDoor
namespace Go.Proofs.YtemnnmohdpabhaaGreatDoor
open Go.RowKit
set_option linter.unusedVariables false
set_option linter.unusedSimpArgs false

def cyc (ms : List Mach) (ns : List NeedS) (plan : List Int) (k : Nat) : Nat → Int
 | 0 => (ms.getD k default).fixed
 | r + 1 => if plan.getD r 0 = (k : Int) then cyc ms ns plan k r + (ms.getD k default).each * (ns.getD r default).count else cyc ms ns plan k r
def cycL (ms : List Mach) (ns : List NeedS) (plan : List Int) : List Int := tabI ms.length (fun k => cyc ms ns plan k plan.length)
theorem cycL_len (ms : List Mach) (ns : List NeedS) (plan : List Int) : (cycL ms ns plan).length = ms.length := tabI_len _ _
theorem needsF_len {ns : List NeedS} {lo hi : Int} (h : needsF ns lo hi = 0) : ns.length ≤ 1000 := by
 rw [needsF] at h
 split at h
 ·cases h
 ·omega
theorem needsF_count {ns : List NeedS} {lo hi : Int} (h : needsF ns lo hi = 0) {i : Nat} (hi' : i < ns.length) : lo ≤ (ns.getD i default).count ∧ (ns.getD i default).count ≤ hi := by
 have hl := needsF_len h
 rw [needsF, if_neg (by omega)] at h
 have := firstE_zero h i hi'
 rw [needE] at this
 split at this
 ·cases this
 ·split at this
  ·cases this
  ·split at this
   ·cases this
   ·rename_i h3
    have h3' := Bool.eq_false_iff.2 h3
    simp only [outR, Bool.or_eq_false_iff, decide_eq_false_iff_not] at h3'
    omega
theorem mul_in {a b : Int} (h1 : 0 ≤ a ∧ a ≤ 10000000) (h2 : 1 ≤ b ∧ b ≤ 1000) : 0 ≤ a * b ∧ a * b ≤ 10000000000 := by
 refine ⟨Int.mul_nonneg h1.1 (by omega), ?_⟩
 have h3 : a * b ≤ 10000000 * b := Int.mul_le_mul_of_nonneg_right h1.2 (by omega)
 omega
section
variable {ms : List Mach} {ns : List NeedS} {plan : List Int}
theorem cyc_in (hm : machF ms = 0) (hn : needsF ns 1 1000 = 0) {k : Nat} (hk : k < ms.length) : ∀ {r : Nat}, r ≤ ns.length → 0 ≤ cyc ms ns plan k r ∧ cyc ms ns plan k r ≤ 10000000 + 10000000000 * r
 | 0, _ => by have := (machF_each hm hk).1; rw [cyc]; omega
 | r + 1, hr => by
  have ih := cyc_in hm hn hk (r := r) (by omega)
  have hp := mul_in (machF_each hm hk).1.1 (needsF_count hn (i := r) (by omega))
  rw [cyc]
  split <;> omega
theorem planF_zero (h : planF ms ns plan = 0) : plan.length = ns.length ∧ ∀ j, j < plan.length → planE ms ns plan j = 0 := by
 rw [planF] at h
 split at h
 ·cases h
 ·split at h
  ·rename_i h2; exact absurd h h2
  ·rename_i h1 h2
   exact ⟨by omega, firstE_zero (by omega)⟩
end
theorem tabI_snoc (n : Nat) (f : Nat → Int) : tabI n f ++ [f n] = tabI (n + 1) f := by simp [tabI, List.range_succ]
theorem if_step {j q : Nat} {a b : Int} (h : j ≠ q) : (if j < q then a else b) = (if j < q + 1 then a else b) := by
 by_cases hj : j < q
 ·rw [if_pos hj, if_pos (by omega)]
 ·rw [if_neg hj, if_neg (by omega)]
end Go.Proofs.YtemnnmohdpabhaaGreatDoor
namespace Go.Proofs.YtemnnmohdpabhaaGreatDoor
set_option linter.unusedVariables false
set_option linter.unusedSimpArgs false
def ndiff (a b : Nat) : Nat := a ^^^ (a &&& b)
theorem ndiff_bit (a b i : Nat) : (ndiff a b).testBit i = (a.testBit i && !b.testBit i) := by
 unfold ndiff
 rw [Nat.testBit_xor, Nat.testBit_and]
 cases a.testBit i <;> cases b.testBit i <;> rfl
def SubN (a r : Nat) : Prop := a &&& r = a
instance (a r : Nat) : Decidable (SubN a r) := inferInstanceAs (Decidable (_ = _))
theorem SubN.iff {a r : Nat} : SubN a r ↔ ∀ i, a.testBit i = true → r.testBit i = true := by
 constructor
 ·intro h i hi
  have := congrArg (fun x => x.testBit i) h
  simp only [Nat.testBit_and, hi, Bool.true_and] at this
  exact this
 ·intro h
  refine Nat.eq_of_testBit_eq fun i => ?_
  rw [Nat.testBit_and]
  cases hi : a.testBit i with
  | false => rfl
  | true => rw [h i hi]; rfl
theorem SubN.refl (a : Nat) : SubN a a := Nat.and_self a
theorem SubN.zero (r : Nat) : SubN 0 r := Nat.zero_and r
theorem SubN.le {a r : Nat} (h : SubN a r) : a ≤ r := by rw [← h]; exact Nat.and_le_right
theorem SubN.trans {a b c : Nat} (h1 : SubN a b) (h2 : SubN b c) : SubN a c := SubN.iff.2 fun i hi => SubN.iff.1 h2 i (SubN.iff.1 h1 i hi)
theorem SubN.and_ (a r : Nat) : SubN (a &&& r) r := by
 unfold SubN; rw [Nat.and_assoc, Nat.and_self]
theorem SubN.diff (a b : Nat) : SubN (ndiff a b) a := SubN.iff.2 fun i hi => by
 rw [ndiff_bit, Bool.and_eq_true] at hi; exact hi.1
theorem and_half (a b : Nat) : (a &&& b) / 2 = a / 2 &&& b / 2 := by
 refine Nat.eq_of_testBit_eq fun i => ?_
 rw [Nat.testBit_div_two, Nat.testBit_and, Nat.testBit_and, Nat.testBit_div_two, Nat.testBit_div_two]
theorem and_low (a b : Nat) : (a &&& b) % 2 = if a % 2 = 1 ∧ b % 2 = 1 then 1 else 0 := by
 have h := Nat.testBit_and a b 0
 simp only [Nat.testBit_zero] at h
 by_cases ha : a % 2 = 1
 ·by_cases hb : b % 2 = 1
  ·rw [if_pos ⟨ha, hb⟩]
   rw [ha, hb] at h
   simpa using h
  ·rw [if_neg (fun h => hb h.2)]
   have hb0 : b % 2 = 0 := by omega
   have h' : ¬ ((a &&& b) % 2 = 1) := fun e => by rw [e, ha, hb0] at h; exact absurd h (by decide)
   have := Nat.mod_two_eq_zero_or_one (a &&& b)
   omega
 ·rw [if_neg (fun h => ha h.1)]
  have ha0 : a % 2 = 0 := by omega
  have h' : ¬ ((a &&& b) % 2 = 1) := fun e => by rw [e, ha0] at h; exact absurd h (by simp)
  have := Nat.mod_two_eq_zero_or_one (a &&& b)
  omega
theorem SubN.half {a r : Nat} (h : SubN a r) : SubN (a / 2) (r / 2) := by
 unfold SubN at h ⊢; rw [← and_half, h]
theorem SubN.low {a r : Nat} (h : SubN a r) : a % 2 ≤ r % 2 := by
 unfold SubN at h
 have h2 := and_low a r
 rw [h] at h2
 split at h2 <;> omega
theorem sub_next : ∀ (sub s r : Nat), SubN s r → SubN sub r → s < sub → s ≤ (sub - 1) &&& r
 | sub, s, r, h1, h2, h => by
  have e1 := and_half (sub - 1) r
  have e2 := and_low (sub - 1) r
  have hl := h1.low
  have hm := h2.low
  by_cases hb : sub % 2 = 1
  ·have hd : (sub - 1) / 2 = sub / 2 := by omega
   rw [hd, h2.half] at e1
   have h0 : (sub - 1) % 2 = 0 := by omega
   rw [if_neg (by omega)] at e2
   omega
  ·have hs : s / 2 < sub / 2 := by omega
   have hd : (sub - 1) / 2 = sub / 2 - 1 := by omega
   have ih := sub_next (sub / 2) (s / 2) (r / 2) h1.half h2.half hs
   rw [hd] at e1
   rw [← e1] at ih
   by_cases hr : r % 2 = 1
   ·rw [if_pos ⟨by omega, hr⟩] at e2; omega
   ·rw [if_neg (fun h => hr h.2)] at e2; omega
 termination_by sub => sub
 decreasing_by omega
theorem sub_dec {sub r : Nat} (h : sub ≠ 0) : (sub - 1) &&& r < sub := Nat.lt_of_le_of_lt Nat.and_le_left (by omega)
theorem full_bit (n i : Nat) : (2 ^ n - 1).testBit i = decide (i < n) := Nat.testBit_two_pow_sub_one ..
end Go.Proofs.YtemnnmohdpabhaaGreatDoor
namespace Go.Proofs.YtemnnmohdpabhaaGreatDoor
open Go.RowKit
set_option linter.unusedVariables false
set_option linter.unusedSimpArgs false
abbrev neverC : Int := 1152921504606846976
def numB (b : Nat → Bool) : Nat → Nat
 | 0 => 0
 | r + 1 => numB b r + if b r = true then 1 else 0
def timB (m : Mach) (ns : List NeedS) (b : Nat → Bool) : Nat → Int
 | 0 => m.fixed
 | r + 1 => if b r = true then timB m ns b r + m.each * (ns.getD r default).count else timB m ns b r
def okA (m : Mach) (ns : List NeedS) (b : Nat → Bool) (i : Nat) : Bool := !b i || (hasK m (ns.getD i default).key && decide ((numB b (i + 1) : Int) ≤ m.feeders))
def okB (m : Mach) (ns : List NeedS) (b : Nat → Bool) : Bool := (List.range ns.length).all (okA m ns b)
def cycB (m : Mach) (ns : List NeedS) (b : Nat → Bool) : Int := if okB m ns b = true then timB m ns b ns.length else neverC
theorem numB_congr {b b' : Nat → Bool} : ∀ {r : Nat}, (∀ i, i < r → b i = b' i) → numB b r = numB b' r
 | 0, _ => rfl
 | r + 1, h => by rw [numB, numB, numB_congr fun i hi => h i (by omega), h r (by omega)]
theorem timB_congr {m : Mach} {ns : List NeedS} {b b' : Nat → Bool} : ∀ {r : Nat}, (∀ i, i < r → b i = b' i) → timB m ns b r = timB m ns b' r
 | 0, _ => rfl
 | r + 1, h => by rw [timB, timB, timB_congr fun i hi => h i (by omega), h r (by omega)]
theorem okA_congr {m : Mach} {ns : List NeedS} {b b' : Nat → Bool} {i : Nat} (h : ∀ j, j ≤ i → b j = b' j) : okA m ns b i = okA m ns b' i := by
 unfold okA
 rw [h i (Nat.le_refl _), numB_congr fun j hj => h j (by omega)]
theorem okB_iff {m : Mach} {ns : List NeedS} {b : Nat → Bool} : okB m ns b = true ↔ ∀ i, i < ns.length → okA m ns b i = true := by
 unfold okB
 rw [List.all_eq_true]
 exact ⟨fun h i hi => h i (List.mem_range.2 hi), fun h i hi => h i (List.mem_range.1 hi)⟩
theorem cycB_congr {m : Mach} {ns : List NeedS} {b b' : Nat → Bool} (h : ∀ i, i < ns.length → b i = b' i) : cycB m ns b = cycB m ns b' := by
 have e : okB m ns b = okB m ns b' := by
  rw [Bool.eq_iff_iff, okB_iff, okB_iff]
  constructor
  ·intro h2 i hi; rw [← okA_congr fun j hj => h j (by omega)]; exact h2 i hi
  ·intro h2 i hi; rw [okA_congr fun j hj => h j (by omega)]; exact h2 i hi
 unfold cycB; rw [e, timB_congr h]
structure MnOk (ms : List Mach) (ns : List NeedS) : Prop where
 fix : ∀ k, 0 ≤ (ms.getD k default).fixed ∧ (ms.getD k default).fixed ≤ 10000000
 each : ∀ k, 0 ≤ (ms.getD k default).each ∧ (ms.getD k default).each ≤ 10000000
 cnt : ∀ i, 0 ≤ (ns.getD i default).count ∧ (ns.getD i default).count ≤ 1000
 len : ns.length ≤ 1000
theorem mul_in2 {a b : Int} (h1 : 0 ≤ a ∧ a ≤ 10000000) (h2 : 0 ≤ b ∧ b ≤ 1000) : 0 ≤ a * b ∧ a * b ≤ 10000000000 := by
 refine ⟨Int.mul_nonneg h1.1 h2.1, ?_⟩
 have h3 : a * b ≤ 10000000 * b := Int.mul_le_mul_of_nonneg_right h1.2 h2.1
 omega
section
variable {ms : List Mach} {ns : List NeedS}
theorem timB_in (h : MnOk ms ns) (k : Nat) (b : Nat → Bool) : ∀ r, 0 ≤ timB (ms.getD k default) ns b r ∧ timB (ms.getD k default) ns b r ≤ 10000000 + 10000000000 * r
 | 0 => by have := h.fix k; rw [timB]; omega
 | r + 1 => by
  have ih := timB_in h k b r
  have := mul_in2 (h.each k) (h.cnt r)
  rw [timB]; split <;> omega
theorem cycB_in (h : MnOk ms ns) (k : Nat) (b : Nat → Bool) : 0 ≤ cycB (ms.getD k default) ns b ∧ cycB (ms.getD k default) ns b ≤ neverC := by
 have h1 := timB_in h k b ns.length
 have := h.len
 unfold cycB; split <;> simp only [neverC] <;> omega
theorem timB_lt (h : MnOk ms ns) (k : Nat) (b : Nat → Bool) {r : Nat} (hr : r ≤ ns.length) : timB (ms.getD k default) ns b r < neverC := by
 have h1 := timB_in h k b r
 have := h.len
 simp only [neverC]; omega
theorem timB_mono (h : MnOk ms ns) (k : Nat) {b b' : Nat → Bool} (hb : ∀ i, b i = true → b' i = true) : ∀ r, timB (ms.getD k default) ns b r ≤ timB (ms.getD k default) ns b' r
 | 0 => Int.le_refl _
 | r + 1 => by
  have ih := timB_mono h k hb r
  have := mul_in2 (h.each k) (h.cnt r)
  rw [timB, timB]
  split
  ·rename_i h1; rw [if_pos (hb r h1)]; omega
  ·split <;> omega
end
def mnK (F : Nat → Int) : Nat → Int
 | 0 => neverC
 | k + 1 => min (mnK F k) (F k)
theorem mnK_never (F : Nat → Int) : ∀ K, mnK F K ≤ neverC
 | 0 => Int.le_refl _
 | K + 1 => by have := mnK_never F K; rw [mnK]; omega
theorem mnK_le {F : Nat → Int} : ∀ {K k : Nat}, k < K → mnK F K ≤ F k
 | K + 1, k, h => by
  rw [mnK]
  by_cases e : k = K
  ·subst e; omega
  ·have := mnK_le (F := F) (show k < K by omega); omega
theorem mnK_at {F : Nat → Int} : ∀ {K : Nat}, mnK F K < neverC → ∃ k, k < K ∧ F k = mnK F K
 | 0, h => absurd h (Int.lt_irrefl _)
 | K + 1, h => by
  rw [mnK] at h ⊢
  by_cases e : F K ≤ mnK F K
  ·exact ⟨K, by omega, by omega⟩
  ·obtain ⟨k, h1, h2⟩ := mnK_at (F := F) (K := K) (by omega)
   exact ⟨k, by omega, by omega⟩
theorem mnK_iff {F : Nat → Int} {K : Nat} {v : Int} (hv : v < neverC) : mnK F K ≤ v ↔ ∃ k, k < K ∧ F k ≤ v := by
 constructor
 ·intro h
  obtain ⟨k, h1, h2⟩ := mnK_at (F := F) (K := K) (by omega)
  exact ⟨k, h1, by omega⟩
 ·rintro ⟨k, h1, h2⟩
  have := mnK_le (F := F) h1; omega
theorem mnK_nn {F : Nat → Int} (h : ∀ k, 0 ≤ F k) : ∀ K, 0 ≤ mnK F K
 | 0 => show (0 : Int) ≤ neverC by decide
 | K + 1 => by have := mnK_nn h K; have := h K; rw [mnK]; omega
def fsK (F : Nat → Int) (v : Int) : Nat → Nat
 | 0 => 0
 | K + 1 => if fsK F v K < K then fsK F v K else if F K = v then K else K + 1
theorem fsK_spec (F : Nat → Int) (v : Int) : ∀ K, fsK F v K ≤ K ∧ (∀ j, j < fsK F v K → F j ≠ v) ∧ (fsK F v K < K → F (fsK F v K) = v)
 | 0 => ⟨Nat.le_refl _, fun j hj => absurd hj (Nat.not_lt_zero j), fun h => absurd h (Nat.not_lt_zero _)⟩
 | K + 1 => by
  obtain ⟨h1, h2, h3⟩ := fsK_spec F v K
  rw [fsK]
  split
  ·rename_i h; exact ⟨by omega, h2, fun _ => h3 h⟩
  ·have e : fsK F v K = K := by omega
   rw [e] at h2
   split
   ·rename_i h4; exact ⟨by omega, h2, fun _ => h4⟩
   ·rename_i h4
    refine ⟨Nat.le_refl _, fun j hj => ?_, fun h => absurd h (Nat.lt_irrefl _)⟩
    by_cases e2 : j = K
    ·rw [e2]; exact h4
    ·exact h2 j (by omega)
theorem fsK_eq {F : Nat → Int} {v : Int} {K k : Nat} (hk : k < K) (h : F k = v) (hn : ∀ j, j < k → F j ≠ v) : fsK F v K = k := by
 obtain ⟨h1, h2, h3⟩ := fsK_spec F v K
 have a1 : ¬ k < fsK F v K := fun h' => h2 k h' h
 have a2 : ¬ fsK F v K < k := fun h' => hn _ h' (h3 (by omega))
 omega
def mnS (F : Nat → Int) (s : Nat) : Int := mnK (fun t => if SubN t s then F t else neverC) (s + 1)
theorem mnS_iff {F : Nat → Int} {s : Nat} {v : Int} (hv : v < neverC) : mnS F s ≤ v ↔ ∃ t, SubN t s ∧ F t ≤ v := by
 unfold mnS
 rw [mnK_iff hv]
 constructor
 ·rintro ⟨k, h1, h2⟩
  split at h2
  ·rename_i h3; exact ⟨k, h3, h2⟩
  ·omega
 ·rintro ⟨t, h1, h2⟩
  exact ⟨t, by have := h1.le; omega, by rw [if_pos h1]; exact h2⟩
theorem mnS_never (F : Nat → Int) (s : Nat) : mnS F s ≤ neverC := mnK_never _ _
theorem mnS_nn {F : Nat → Int} (h : ∀ t, 0 ≤ F t) (s : Nat) : 0 ≤ mnS F s := mnK_nn (fun t => by split; exact h t; decide) _
theorem eq_of_le {a b : Int} (ha : a ≤ neverC) (hb : b ≤ neverC) (ha0 : 0 ≤ a) (hb0 : 0 ≤ b) (h : ∀ v, 0 ≤ v → v < neverC → (a ≤ v ↔ b ≤ v)) : a = b := by
 by_cases h1 : a < b
 ·exact absurd ((h a ha0 (by omega)).1 (Int.le_refl _)) (by omega)
 ·by_cases h2 : b < a
  ·exact absurd ((h b hb0 (by omega)).2 (Int.le_refl _)) (by omega)
  ·omega
section
variable (ms : List Mach) (ns : List NeedS) (fx : Nat → Nat)
def alnS (k t : Nat) : Int := cycB (ms.getD k default) ns fun i => (fx k ||| t).testBit i
def belS : Nat → Nat → Int
 | 0, s => if s = 0 then 0 else neverC
 | k + 1, s => mnS (fun t => max (belS k (ndiff s t)) (alnS ms ns fx k t)) s
end
theorem ex_mask (p : Nat → Bool) (s : Nat) : ∃ t : Nat, ∀ i, t.testBit i = (s.testBit i && p i) := by
 induction s using Nat.strongRecOn generalizing p with
 | _ s ih =>
  by_cases h0 : s = 0
  ·subst h0; exact ⟨0, fun i => by simp⟩
  ·obtain ⟨t, ht⟩ := ih (s / 2) (by omega) fun i => p (i + 1)
   refine ⟨2 * t + if (s.testBit 0 && p 0) = true then 1 else 0, fun i => ?_⟩
   cases i with
   | zero =>
    cases h : (s.testBit 0 && p 0) with
    | true => simp only [if_true, Nat.testBit_zero]; simp
    | false => simp [Nat.testBit_zero]
   | succ i =>
    rw [Nat.testBit_succ, Nat.testBit_succ]
    have : (2 * t + if (s.testBit 0 && p 0) = true then 1 else 0) / 2 = t := by split <;> omega
    rw [this]; exact ht i
section
variable {ms : List Mach} {ns : List NeedS} {fx : Nat → Nat}
theorem belS_nn (h : MnOk ms ns) : ∀ k s, 0 ≤ belS ms ns fx k s
 | 0, s => by rw [belS]; split <;> decide
 | k + 1, s => mnS_nn (fun t => by have := belS_nn h k (ndiff s t); omega) s
theorem belS_never : ∀ k s, belS ms ns fx k s ≤ neverC
 | 0, s => by rw [belS]; split <;> decide
 | k + 1, s => mnS_never _ _
theorem belS_iff {v : Int} (h0 : 0 ≤ v) (hv : v < neverC) : ∀ (k s : Nat), belS ms ns fx k s ≤ v ↔ ∃ g : Nat → Nat, (∀ i, s.testBit i = true → g i < k) ∧ ∀ j, j < k → cycB (ms.getD j default) ns (fun i => (fx j).testBit i || (s.testBit i && decide (g i = j))) ≤ v
  | 0, s => by
    rw [belS]
    constructor
    · intro h
      split at h
      · rename_i e; subst e; exact ⟨fun _ => 0, fun i hi => by simp at hi, fun j hj => absurd hj (Nat.not_lt_zero j)⟩
      · omega
    · rintro ⟨g, h1, _⟩
      rw [if_pos]
      · exact h0
      · refine Nat.eq_of_testBit_eq fun i => ?_
        cases hi : s.testBit i with
        | false => simp
        | true => exact absurd (h1 i hi) (Nat.not_lt_zero _)
  | k + 1, s => by
    rw [belS, mnS_iff hv]
    constructor
    · rintro ⟨t, ht, hm⟩
      obtain ⟨g, g1, g2⟩ := (belS_iff h0 hv k (ndiff s t)).1 (by omega)
      refine ⟨fun i => if t.testBit i = true then k else g i, fun i hi => ?_, fun j hj => ?_⟩
      · show (if t.testBit i = true then k else g i) < k + 1
        split
        · omega
        · rename_i h2
          have := g1 i (by rw [ndiff_bit, hi]; simpa using h2)
          omega
      · by_cases e : j = k
        · subst e
          refine Int.le_trans (Int.le_of_eq (cycB_congr fun i hi => ?_)) (show alnS ms ns fx j t ≤ v by omega)
          rw [Nat.testBit_or]
          congr 1
          show (s.testBit i && decide ((if t.testBit i = true then j else g i) = j)) = t.testBit i
          cases h2 : t.testBit i with
          | true => rw [SubN.iff.1 ht i h2]; simp
          | false =>
            cases h3 : s.testBit i with
            | false => rfl
            | true =>
              have := g1 i (by rw [ndiff_bit, h3, h2]; rfl)
              simp; omega
        · refine Int.le_trans (Int.le_of_eq (cycB_congr fun i hi => ?_)) (g2 j (by omega))
          congr 1
          rw [ndiff_bit]
          show (s.testBit i && decide ((if t.testBit i = true then k else g i) = j)) = _
          cases h2 : t.testBit i with
          | true => simp; omega
          | false => simp
    · rintro ⟨g, g1, g2⟩
      obtain ⟨t, ht⟩ := ex_mask (fun i => decide (g i = k)) s
      have hts : SubN t s := SubN.iff.2 fun i hi => by rw [ht, Bool.and_eq_true] at hi; exact hi.1
      refine ⟨t, hts, ?_⟩
      have h1 : belS ms ns fx k (ndiff s t) ≤ v := (belS_iff h0 hv k (ndiff s t)).2 ⟨g, fun i hi => by
        rw [ndiff_bit, ht, Bool.and_eq_true] at hi
        have := g1 i hi.1
        have h3 := hi.2
        rw [hi.1] at h3
        simp at h3
        omega, fun j hj => by
        refine Int.le_trans (Int.le_of_eq (cycB_congr fun i hi => ?_)) (g2 j (by omega))
        congr 1
        rw [ndiff_bit, ht]
        cases s.testBit i with
        | false => rfl
        | true =>
          by_cases e : g i = j
          · simp [e]; omega
          · simp [e]⟩
      have h2 : alnS ms ns fx k t ≤ v := by
        refine Int.le_trans (Int.le_of_eq (cycB_congr fun i hi => ?_)) (g2 k (by omega))
        rw [Nat.testBit_or, ht]
      omega
end
def plB (pl : List Int) (k i : Nat) : Bool := decide (i < pl.length) && decide (pl.getD i 0 = (k : Int))
theorem plB_snoc (pl : List Int) (c k i : Nat) : plB (pl ++ [(c : Int)]) k i = (plB pl k i || (decide (i = pl.length) && decide (c = k))) := by
 unfold plB
 by_cases h : i < pl.length
 ·rw [List.getD_eq_getElem?_getD, List.getElem?_append_left h, ← List.getD_eq_getElem?_getD]
  simp [h, show i < pl.length + 1 by omega, show i ≠ pl.length by omega]
 ·by_cases h2 : i = pl.length
  ·subst h2; simp
   exact ⟨fun h => by omega, fun h => by omega⟩
  ·simp [h, h2, show ¬ i < pl.length + 1 by omega]
section
variable (ms : List Mach) (ns : List NeedS)
def ExtP (pl : List Int) (v : Int) : Prop := ∃ g : Nat → Nat, (∀ i, pl.length ≤ i → i < ns.length → g i < ms.length) ∧ ∀ j, j < ms.length → cycB (ms.getD j default) ns (fun i => plB pl j i || ((decide (pl.length ≤ i) && decide (i < ns.length)) && decide (g i = j))) ≤ v
def mxK (F : Nat → Int) : Nat → Int
 | 0 => 0
 | k + 1 => max (mxK F k) (F k)
def mxC (pl : List Int) : Int := mxK (fun k => cycB (ms.getD k default) ns (plB pl k)) ms.length
def bstV : Nat → List Int → Int
 | 0, pl => mxC ms ns pl
 | d + 1, pl => mnK (fun k => bstV d (pl ++ [(k : Int)])) ms.length
def grd : Nat → List Int → List Int
 | 0, pl => pl
 | d + 1, pl => grd d (pl ++ [((fsK (fun k => bstV ms ns d (pl ++ [(k : Int)])) (bstV ms ns (d + 1) pl) ms.length : Nat) : Int)])
end
theorem mxK_le {F : Nat → Int} {v : Int} (h0 : 0 ≤ v) : ∀ {K : Nat}, mxK F K ≤ v ↔ ∀ k, k < K → F k ≤ v
 | 0 => ⟨fun _ k hk => absurd hk (Nat.not_lt_zero k), fun _ => h0⟩
 | K + 1 => by
  have ih := mxK_le (F := F) h0 (K := K)
  rw [mxK]
  constructor
  ·intro h k hk
   by_cases e : k = K
   ·subst e; omega
   ·exact ih.1 (by omega) k (by omega)
  ·intro h
   have h1 := ih.2 fun k hk => h k (by omega)
   have h2 := h K (by omega)
   omega
theorem mxK_nn (F : Nat → Int) : ∀ K, 0 ≤ mxK F K
 | 0 => Int.le_refl _
 | K + 1 => by have := mxK_nn F K; rw [mxK]; omega
theorem mxK_congr {F G : Nat → Int} : ∀ {K}, (∀ k, k < K → F k = G k) → mxK F K = mxK G K
 | 0, _ => rfl
 | K + 1, h => by rw [mxK, mxK, mxK_congr fun k hk => h k (by omega), h K (by omega)]
theorem mxK_up {F : Nat → Int} {v : Int} (h0 : 0 ≤ v) {K : Nat} (h : ∀ k, k < K → F k ≤ v) : mxK F K ≤ v := (mxK_le h0).2 h
section
variable {ms : List Mach} {ns : List NeedS}
theorem mxC_in (h : MnOk ms ns) (pl : List Int) : 0 ≤ mxC ms ns pl ∧ mxC ms ns pl ≤ neverC :=
 ⟨mxK_nn _ _, mxK_up (by decide) fun k _ => (cycB_in h k _).2⟩
theorem bstV_in (h : MnOk ms ns) : ∀ d pl, 0 ≤ bstV ms ns d pl ∧ bstV ms ns d pl ≤ neverC
 | 0, pl => mxC_in h pl
 | d + 1, pl => ⟨mnK_nn (fun k => (bstV_in h d _).1) _, mnK_never _ _⟩
theorem ext_snoc {pl : List Int} {v : Int} (hl : pl.length < ns.length) : ExtP ms ns pl v ↔ ∃ k, k < ms.length ∧ ExtP ms ns (pl ++ [(k : Int)]) v := by
 have key : ∀ (g g' : Nat → Nat) (c j : Nat), g pl.length = c → (∀ i, pl.length + 1 ≤ i → g' i = g i) → ∀ i, (plB (pl ++ [(c : Int)]) j i || ((decide (pl.length + 1 ≤ i) && decide (i < ns.length)) && decide (g' i = j))) = (plB pl j i || ((decide (pl.length ≤ i) && decide (i < ns.length)) && decide (g i = j))) := fun g g' c j hc hg i => by
  rw [plB_snoc]
  by_cases e : i = pl.length
  ·subst e
   rw [hc]
   simp [hl]
   intro h; omega
  ·by_cases e2 : pl.length + 1 ≤ i
   ·rw [hg i e2]
    simp [e, e2, show pl.length ≤ i by omega]
   ·simp [e, e2, show ¬ pl.length ≤ i by omega]
 constructor
 ·rintro ⟨g, h1, h2⟩
  refine ⟨g pl.length, h1 _ (Nat.le_refl _) hl, g, fun i hi hn => h1 i (by simp at hi; omega) hn, fun j hj => ?_⟩
  have := h2 j hj
  rw [cycB_congr fun i _ => (key g g (g pl.length) j rfl (fun _ _ => rfl) i).symm] at this
  rw [List.length_append]; exact this
 ·rintro ⟨k, hk, g, h1, h2⟩
  refine ⟨fun i => if i = pl.length then k else g i, fun i hi hn => ?_, fun j hj => ?_⟩
  ·show (if i = pl.length then k else g i) < _
   split
   ·exact hk
   ·exact h1 i (by simp; omega) hn
  ·have := h2 j hj
   rw [List.length_append] at this
   rw [← cycB_congr fun i _ => key (fun i => if i = pl.length then k else g i) g k j (if_pos rfl) (fun i hi => (if_neg (by omega)).symm) i]
   exact this
theorem bstV_iff {v : Int} (h0 : 0 ≤ v) (hv : v < neverC) : ∀ (d : Nat) (pl : List Int), pl.length + d = ns.length → (bstV ms ns d pl ≤ v ↔ ExtP ms ns pl v)
 | 0, pl, hl => by
  rw [bstV, mxC, mxK_le h0]
  have e : ∀ (g : Nat → Nat) (j i : Nat), i < ns.length → (plB pl j i || ((decide (pl.length ≤ i) && decide (i < ns.length)) && decide (g i = j))) = plB pl j i := fun g j i hi => by
   simp [show ¬ pl.length ≤ i by omega]
  constructor
  ·intro h
   exact ⟨fun _ => 0, fun i hi hn => by omega, fun j hj => by rw [cycB_congr (e _ j)]; exact h j hj⟩
  ·rintro ⟨g, _, h2⟩ j hj
   have := h2 j hj
   rwa [cycB_congr (e g j)] at this
 | d + 1, pl, hl => by
  rw [bstV, mnK_iff hv, ext_snoc (by omega)]
  exact exists_congr fun k => and_congr_right fun hk => bstV_iff h0 hv d _ (by simp; omega)
def mskB (b : Nat → Bool) : Nat → Nat
 | 0 => 0
 | r + 1 => mskB b r ||| (if b r = true then 2 ^ r else 0)
theorem mskB_bit (b : Nat → Bool) : ∀ r i, (mskB b r).testBit i = (decide (i < r) && b i)
 | 0, i => by simp [mskB]
 | r + 1, i => by
  rw [mskB, Nat.testBit_or, mskB_bit b r i]
  by_cases h : i = r
  ·subst h
   cases hb : b i <;> simp [Nat.testBit_two_pow]
  ·have h1 : (if b r = true then 2 ^ r else 0).testBit i = false := by
    split
    ·rw [Nat.testBit_two_pow]; simp; omega
    ·simp
   rw [h1, Bool.or_false]
   congr 1
   exact decide_eq_decide.2 (by omega)
def mskP (pl : List Int) (k : Nat) : Nat := mskB (plB pl k) pl.length
theorem mskP_bit (pl : List Int) (k i : Nat) : (mskP pl k).testBit i = plB pl k i := by
 unfold mskP
 rw [mskB_bit]
 unfold plB
 cases decide (i < pl.length) <;> rfl
theorem mskP_snoc (pl : List Int) (c k : Nat) : mskP (pl ++ [(c : Int)]) k = if k = c then mskP pl k ||| 2 ^ pl.length else mskP pl k := by
 refine Nat.eq_of_testBit_eq fun i => ?_
 rw [mskP_bit, plB_snoc]
 split
 ·rename_i e; subst e
  rw [Nat.testBit_or, mskP_bit, Nat.testBit_two_pow]
  simp [eq_comm]
 ·rename_i e
  rw [mskP_bit]
  simp [show ¬ c = k from fun h => e h.symm]
theorem mskP_lt (pl : List Int) (k : Nat) : mskP pl k < 2 ^ pl.length := Nat.lt_pow_two_of_testBit _ fun i hi => by
 rw [mskP_bit]; unfold plB; simp [show ¬ i < pl.length by omega]
theorem mskP_back (pl : List Int) (k : Nat) : ndiff (mskP pl k ||| 2 ^ pl.length) (2 ^ pl.length) = mskP pl k := by
 refine Nat.eq_of_testBit_eq fun i => ?_
 rw [ndiff_bit, Nat.testBit_or, mskP_bit, Nat.testBit_two_pow]
 unfold plB
 by_cases h : i < pl.length
 ·simp [show ¬ pl.length = i by omega]
 ·simp [h]
def rst (n i : Nat) : Nat := ndiff (2 ^ n - 1) (2 ^ i - 1)
theorem rst_bit (n i j : Nat) : (rst n i).testBit j = (decide (i ≤ j) && decide (j < n)) := by
 unfold rst
 rw [ndiff_bit, full_bit, full_bit]
 by_cases h1 : j < n <;> by_cases h2 : j < i <;> simp [h1, h2] <;> omega
theorem rst_zero (n : Nat) : rst n 0 = 2 ^ n - 1 := by unfold rst ndiff; simp
theorem rst_succ (n i : Nat) : ndiff (rst n i) (2 ^ i) = rst n (i + 1) := by
 refine Nat.eq_of_testBit_eq fun j => ?_
 rw [ndiff_bit, rst_bit, rst_bit, Nat.testBit_two_pow]
 by_cases h1 : i = j
 ·subst h1; simp; omega
 ·by_cases h2 : i ≤ j
  ·simp [h1, h2, show i + 1 ≤ j by omega]
  ·simp [h1, h2, show ¬ i + 1 ≤ j by omega]
theorem rst_lt (n i : Nat) : rst n i < 2 ^ n := Nat.lt_pow_two_of_testBit _ fun j hj => by
 rw [rst_bit]; simp; omega
theorem belS_bst (h : MnOk ms ns) {pl : List Int} {d : Nat} (hl : pl.length + d = ns.length) : belS ms ns (mskP pl) ms.length (rst ns.length pl.length) = bstV ms ns d pl := by
 refine eq_of_le (belS_never _ _) (bstV_in h _ _).2 (belS_nn h _ _) (bstV_in h _ _).1 fun v h0 hv => ?_
 rw [belS_iff h0 hv, bstV_iff h0 hv d pl hl]
 unfold ExtP
 refine exists_congr fun g => ?_
 refine and_congr ?_ ?_
 ·constructor
  ·intro h1 i hi hn; exact h1 i (by rw [rst_bit]; simp; omega)
  ·intro h1 i hi; rw [rst_bit] at hi; simp at hi; exact h1 i hi.1 hi.2
 ·refine forall_congr' fun j => forall_congr' fun hj => ?_
  rw [cycB_congr fun i _ => by rw [mskP_bit, rst_bit]]
def okP (ms : List Mach) (ns : List NeedS) (pl : List Int) : Prop := ∀ k, k < ms.length → okB (ms.getD k default) ns (plB pl k) = true
def mxT (ms : List Mach) (ns : List NeedS) (pl : List Int) : Int := mxK (fun k => timB (ms.getD k default) ns (plB pl k) ns.length) ms.length
theorem mxC_ok {pl : List Int} (h : okP ms ns pl) : mxC ms ns pl = mxT ms ns pl := mxK_congr fun k hk => by rw [cycB, if_pos (h k hk)]
theorem mxT_le (h : MnOk ms ns) {pl : List Int} {d : Nat} (hl : pl.length + d = ns.length) : mxT ms ns pl ≤ bstV ms ns d pl := by
 have hb := bstV_in h d pl
 by_cases hv : bstV ms ns d pl < neverC
 ·obtain ⟨g, _, h2⟩ := (bstV_iff hb.1 hv d pl hl).1 (Int.le_refl _)
  refine mxK_up hb.1 fun k hk => ?_
  have := h2 k hk
  unfold cycB at this
  split at this
  ·exact Int.le_trans (timB_mono h k (fun i hi => by rw [hi]; rfl) _) this
  ·omega
 ·refine mxK_up hb.1 fun k hk => ?_
  have := timB_lt h k (plB pl k) (Nat.le_refl ns.length)
  omega
def mayP (ms : List Mach) (ns : List NeedS) (pl : List Int) (k : Nat) : Prop := hasK (ms.getD k default) (ns.getD pl.length default).key = true ∧ (numB (plB pl k) pl.length : Int) + 1 ≤ (ms.getD k default).feeders
theorem numB_snoc (pl : List Int) (c k : Nat) : ∀ r, numB (plB (pl ++ [(c : Int)]) k) r = numB (plB pl k) r + if pl.length < r ∧ c = k then 1 else 0
 | 0 => by simp [numB]
 | r + 1 => by
  rw [numB, numB, numB_snoc pl c k r, plB_snoc]
  by_cases e : r = pl.length
  ·subst e
   have : plB pl k pl.length = false := by unfold plB; simp
   rw [this]
   by_cases e2 : c = k <;> simp [e2]
  ·by_cases e2 : c = k
   ·subst e2
    by_cases e3 : pl.length < r
    ·simp [e, e3, show pl.length < r + 1 by omega]; omega
    ·simp [e, e3, show ¬ pl.length < r + 1 by omega]
   ·simp [e, e2]
theorem numB_stop (pl : List Int) (k : Nat) : ∀ r, pl.length ≤ r → numB (plB pl k) r = numB (plB pl k) pl.length
 | 0, h => by rw [show pl.length = 0 by omega]
 | r + 1, h => by
  by_cases e : pl.length = r + 1
  ·rw [e]
  ·rw [numB, numB_stop pl k r (by omega)]
   have : plB pl k r = false := by unfold plB; simp; omega
   rw [this]; simp
theorem okP_snoc {pl : List Int} {c : Nat} (h : okP ms ns pl) (hl : pl.length < ns.length) (hm : mayP ms ns pl c) : okP ms ns (pl ++ [(c : Int)]) := fun k hk => by
 refine okB_iff.2 fun i hi => ?_
 have h1 := okB_iff.1 (h k hk) i hi
 unfold okA at h1 ⊢
 rw [plB_snoc, numB_snoc]
 by_cases e : i = pl.length
 ·subst e
  have : plB pl k pl.length = false := by unfold plB; simp
  rw [this, numB, this]
  by_cases e2 : c = k
  ·subst e2
   simp [hm.1, -List.getD_eq_getElem?_getD]
   have := hm.2
   omega
  ·simp [e2]
 ·by_cases e3 : i < pl.length
  ·simp [e, show ¬ pl.length < i + 1 by omega] at h1 ⊢; exact h1
  ·have : plB pl k i = false := by unfold plB; simp; omega
   simp [e, this]
theorem okB_sub {m : Mach} {b b' : Nat → Bool} {c : Nat} (hb : ∀ i, i ≤ c → b i = b' i) (hc : c < ns.length) (h : okB m ns b' = true) : okA m ns b c = true := by
 rw [okA_congr hb]; exact okB_iff.1 h c hc
theorem bst_no (hM : MnOk ms ns) {pl : List Int} {c d : Nat} (hl : pl.length + (d + 1) = ns.length) (hc : c < ms.length) (hm : ¬ mayP ms ns pl c) : bstV ms ns d (pl ++ [(c : Int)]) = neverC := by
 have hb := bstV_in hM d (pl ++ [(c : Int)])
 refine Classical.byContradiction fun hn => ?_
 have hv : bstV ms ns d (pl ++ [(c : Int)]) < neverC := by omega
 obtain ⟨g, _, h2⟩ := (bstV_iff hb.1 hv d _ (by simp; omega)).1 (Int.le_refl _)
 have := h2 c hc
 unfold cycB at this
 split at this
 ·rename_i h3
  refine hm ?_
  have h4 : okA (ms.getD c default) ns (plB (pl ++ [(c : Int)]) c) pl.length = true := okB_sub (fun i hi => by simp [show ¬ pl.length + 1 ≤ i by omega]) (by omega) h3
  unfold okA at h4
  have hp : plB (pl ++ [(c : Int)]) c pl.length = true := by rw [plB_snoc]; simp
  rw [hp, numB_snoc] at h4
  simp [-List.getD_eq_getElem?_getD] at h4
  have e : numB (plB pl c) (pl.length + 1) = numB (plB pl c) pl.length := numB_stop pl c _ (by omega)
  rw [e] at h4
  exact ⟨h4.1, by have := h4.2; omega⟩
 ·omega
structure BalS where
 best : List Int
 least : Int
 found : Bool
def limB (a : BalS) : Int := if a.found = true then a.least else neverC
def dfsB (ms : List Mach) (ns : List NeedS) : Nat → List Int → BalS → BalS
 | 0, pl, a => if a.found = true ∧ a.least ≤ mxT ms ns pl then a else ⟨pl, mxT ms ns pl, true⟩
 | d + 1, pl, a => if a.found = true ∧ a.least ≤ mxT ms ns pl then a else (List.range ms.length).foldl (fun a k => if hasK (ms.getD k default) (ns.getD pl.length default).key = true ∧ (numB (plB pl k) pl.length : Int) + 1 ≤ (ms.getD k default).feeders then dfsB ms ns d (pl ++ [(k : Int)]) a else a) a
def putB (ms : List Mach) (ns : List NeedS) (d : Nat) (pl : List Int) (a : BalS) : BalS := if bstV ms ns d pl < limB a then ⟨grd ms ns d pl, bstV ms ns d pl, true⟩ else a
theorem dfsB_eq (hM : MnOk ms ns) : ∀ (d : Nat) (pl : List Int) (a : BalS), pl.length + d = ns.length → okP ms ns pl → limB a ≤ neverC → dfsB ms ns d pl a = putB ms ns d pl a
 | 0, pl, a, hl, hok, ha => by
  have e : bstV ms ns 0 pl = mxT ms ns pl := mxC_ok hok
  have hlt : mxT ms ns pl < neverC := by
   have : mxT ms ns pl ≤ neverC - 1 := mxK_up (by decide) fun k _ => by have := timB_lt hM k (plB pl k) (Nat.le_refl ns.length); omega
   omega
  rw [dfsB, putB, e, grd]
  by_cases h : a.found = true ∧ a.least ≤ mxT ms ns pl
  ·rw [if_pos h, if_neg]
   unfold limB; rw [if_pos h.1]; omega
  ·rw [if_neg h, if_pos]
   unfold limB
   split
   ·rename_i h2
    have : ¬ a.least ≤ mxT ms ns pl := fun h3 => h ⟨h2, h3⟩
    omega
   ·exact hlt
 | d + 1, pl, a, hl, hok, ha => by
  rw [dfsB]
  by_cases h : a.found = true ∧ a.least ≤ mxT ms ns pl
  ·rw [if_pos h, putB, if_neg]
   have := mxT_le hM hl
   unfold limB; rw [if_pos h.1]; omega
  ·rw [if_neg h]
   have key : ∀ K, K ≤ ms.length → (List.range K).foldl (fun a k => if hasK (ms.getD k default) (ns.getD pl.length default).key = true ∧ (numB (plB pl k) pl.length : Int) + 1 ≤ (ms.getD k default).feeders then dfsB ms ns d (pl ++ [(k : Int)]) a else a) a
     = if mnK (fun k => bstV ms ns d (pl ++ [(k : Int)])) K < limB a then ⟨grd ms ns d (pl ++ [((fsK (fun k => bstV ms ns d (pl ++ [(k : Int)])) (mnK (fun k => bstV ms ns d (pl ++ [(k : Int)])) K) K : Nat) : Int)]), mnK (fun k => bstV ms ns d (pl ++ [(k : Int)])) K, true⟩ else a := by
    intro K
    induction K with
    | zero => intro _; rw [mnK, if_neg (by omega)]; rfl
    | succ K ih =>
     intro hK
     rw [List.range_succ, List.foldl_append, ih (by omega)]
     simp only [List.foldl_cons, List.foldl_nil]
     generalize hF : (fun k : Nat => bstV ms ns d (pl ++ [(k : Int)])) = F
     have hFK : bstV ms ns d (pl ++ [(K : Int)]) = F K := by rw [← hF]
     have hFn := mnK_never F K
     have hmn : mnK F (K + 1) = min (mnK F K) (F K) := rfl
     have old : mnK F K ≤ F K → mnK F K < neverC → fsK F (mnK F (K + 1)) (K + 1) = fsK F (mnK F K) K := fun h1 h2 => by
      obtain ⟨k, k1, k2⟩ := mnK_at h2
      obtain ⟨s1, s2, s3⟩ := fsK_spec F (mnK F K) K
      have e1 : mnK F (K + 1) = mnK F K := by omega
      have hlt : fsK F (mnK F K) K < K := by
       refine Classical.byContradiction fun hn => s2 k (by omega) k2
      rw [e1]
      exact fsK_eq (by omega) (s3 hlt) s2
     have new : F K < mnK F K → fsK F (mnK F (K + 1)) (K + 1) = K := fun h1 => by
      have e1 : mnK F (K + 1) = F K := by omega
      rw [e1]
      refine fsK_eq (by omega) rfl fun j hj e => ?_
      have := mnK_le (F := F) hj
      omega
     have step : ∀ (a' : BalS), limB a' = min (limB a) (mnK F K) → limB a' ≤ neverC → (if hasK (ms.getD K default) (ns.getD pl.length default).key = true ∧ (numB (plB pl K) pl.length : Int) + 1 ≤ (ms.getD K default).feeders then dfsB ms ns d (pl ++ [(K : Int)]) a' else a') = if F K < min (limB a) (mnK F K) then ⟨grd ms ns d (pl ++ [(K : Int)]), F K, true⟩ else a' := fun a' h1 h2 => by
      by_cases hm : hasK (ms.getD K default) (ns.getD pl.length default).key = true ∧ (numB (plB pl K) pl.length : Int) + 1 ≤ (ms.getD K default).feeders
      ·rw [if_pos hm, dfsB_eq hM d _ a' (by simp; omega) (okP_snoc hok (by omega) hm) h2, putB, h1, hFK]
      ·rw [if_neg hm]
       have e := bst_no hM (d := d) hl (show K < ms.length by omega) hm
       rw [hFK] at e
       rw [if_neg (by omega)]
     by_cases h1 : mnK F K < limB a
     ·rw [if_pos h1, step _ (by show (if true = true then mnK F K else neverC) = _; rw [if_pos rfl]; omega) (by show (if true = true then mnK F K else neverC) ≤ _; rw [if_pos rfl]; omega)]
      by_cases h2 : F K < mnK F K
      ·rw [if_pos (by omega), if_pos (by omega), new h2, hmn, show min (mnK F K) (F K) = F K by omega]
      ·rw [if_neg (by omega), if_pos (by omega), old (by omega) (by omega), hmn, show min (mnK F K) (F K) = mnK F K by omega]
     ·rw [if_neg h1, step a (by omega) ha]
      by_cases h2 : F K < limB a
      ·rw [if_pos (by omega), if_pos (by omega), new (by omega), hmn, show min (mnK F K) (F K) = F K by omega]
      ·rw [if_neg (by omega), if_neg (by omega)]
   rw [key ms.length (Nat.le_refl _), putB]
   rfl
end
end Go.Proofs.YtemnnmohdpabhaaGreatDoor
namespace Go.Proofs.YtemnnmohdpabhaaGreatDoor
open Go.RowKit
set_option linter.unusedVariables false
set_option linter.unusedSimpArgs false
structure Ord (n : Nat) (o : List Int) : Prop where
 nd : o.Nodup
 lt : ∀ x ∈ o, 0 ≤ x ∧ x < n
theorem Ord.nil (n : Nat) : Ord n [] := ⟨List.nodup_nil, fun x h => by simp at h⟩
theorem Ord.snoc {n : Nat} {o : List Int} (h : Ord n o) {q : Nat} (hq : q < n) (hn : (q : Int) ∉ o) : Ord n (o ++ [(q : Int)]) := by
 refine ⟨?_, fun x hx => ?_⟩
 ·rw [List.nodup_append]
  exact ⟨h.nd, by simp, fun a ha b hb => by simp at hb; subst hb; exact fun e => hn (e ▸ ha)⟩
 ·rcases List.mem_append.1 hx with hx | hx
  ·exact h.lt x hx
  ·simp at hx; subst hx; omega
section
variable {τ : Type} (n : Nat) (step : τ → List Int → τ)
def ext : Nat → List Int → τ → τ
 | 0, o, s => step s o
 | d + 1, o, s => (List.range n).foldl (fun (s : τ) (i : Nat) => if (i : Int) ∈ o then s else ext d (o ++ [(i : Int)]) s) s
variable {n step}
end
def idO (n : Nat) : List Int := (List.range n).map fun (i : Nat) => (i : Int)
theorem idO_len (n : Nat) : (idO n).length = n := by simp [idO]
theorem idO_ord (n : Nat) : Ord n (idO n) := ⟨by
 rw [idO, List.Nodup, List.pairwise_map]
 exact List.Pairwise.imp (fun h e => h (by omega)) List.nodup_range, fun x hx => by
 obtain ⟨i, hi, rfl⟩ := List.mem_map.1 hx
 have := List.mem_range.1 hi
 omega⟩
theorem idO_succ (n : Nat) : idO (n + 1) = idO n ++ [(n : Int)] := by simp [idO, List.range_succ]
end Go.Proofs.YtemnnmohdpabhaaGreatDoor
namespace Go.Proofs.YtemnnmohdpabhaaGreatDoor
set_option linter.unusedVariables false
set_option linter.unusedSimpArgs false
section
variable {α : Type} (lt : α → α → Bool) (d : α)
def OrdL (l : List α) : Prop := l.Pairwise fun a b => lt b a = false
def InvO (l0 : List α) (i : Nat) (l : List α) : Prop := ∃ P R, l = P ++ R ∧ P.length = min i l.length ∧ l.Perm l0 ∧ OrdL lt P
def InvI (l0 : List α) (i j : Nat) (l : List α) : Prop := ∃ P x S R, l = P ++ x :: (S ++ R) ∧ P.length = j ∧ P.length + S.length = i ∧ l.Perm l0 ∧ OrdL lt (P ++ S) ∧ ∀ s ∈ S, lt x s = true
variable {lt d} {l0 l : List α} {i j : Nat}
theorem InvO.len (h : InvO lt l0 i l) : l.length = l0.length := h.choose_spec.choose_spec.2.2.1.length_eq
theorem InvI.len (h : InvI lt l0 i j l) : l.length = l0.length ∧ i < l.length ∧ j ≤ i := by
 obtain ⟨P, x, S, R, h1, h2, h3, h4, _⟩ := h
 refine ⟨h4.length_eq, ?_, by omega⟩
 rw [h1]; simp; omega
theorem InvO.one (l0 : List α) : InvO lt l0 1 l0 := by
 cases l0 with
 | nil => exact ⟨[], [], rfl, by simp, .refl _, .nil⟩
 | cons x r => exact ⟨[x], r, rfl, by simp, .refl _, List.pairwise_singleton _ _⟩
theorem InvO.start (h : InvO lt l0 i l) (hi : i < l.length) : InvI lt l0 i i l := by
 obtain ⟨P, R, h1, h2, h3, h4⟩ := h
 rw [Nat.min_eq_left (by omega)] at h2
 cases R with
 | nil => rw [h1] at hi; simp at hi; omega
 | cons x R => exact ⟨P, x, [], R, h1, h2, by simpa using h2, h3, by simpa using h4, by simp⟩
theorem snocOf {P : List α} (h : 0 < P.length) : ∃ Q y, P = Q ++ [y] := ⟨P.dropLast, P.getLast (by intro e; rw [e] at h; simp at h), (List.dropLast_concat_getLast _).symm⟩
theorem swap_eq {Q T : List α} {x y : α} : ((Q ++ y :: x :: T).set (Q.length + 1) y).set Q.length x = Q ++ x :: y :: T := by
 rw [List.set_append_right _ _ (by omega), show Q.length + 1 - Q.length = 1 by omega, List.set_append_right _ _ (by omega), Nat.sub_self]
 rfl
theorem at0 {Q T : List α} {y : α} : (Q ++ y :: T).getD Q.length d = y := by simp [List.getD_eq_getElem?_getD]
theorem at1 {Q T : List α} {x y : α} : (Q ++ y :: x :: T).getD (Q.length + 1) d = x := by
 simp [List.getD_eq_getElem?_getD, List.getElem?_append_right]
theorem InvI.next (ht : ∀ {a b c : α}, lt a b = true → lt b c = true → lt a c = true) (h : InvI lt l0 i j l) (hj : 0 < j) (hlt : lt (l.getD j d) (l.getD (j - 1) d) = true) :
  InvI lt l0 i (j - 1) ((l.set j (l.getD (j - 1) d)).set (j - 1) (l.getD j d)) := by
 obtain ⟨P, x, S, R, h1, h2, h3, h4, h5, h6⟩ := h
 obtain ⟨Q, y, rfl⟩ := snocOf (P := P) (by omega)
 have hl : l = Q ++ y :: x :: (S ++ R) := by rw [h1]; simp
 have hj' : j = Q.length + 1 := by rw [← h2]; simp
 subst hj'
 rw [hl] at hlt ⊢
 rw [at1, show Q.length + 1 - 1 = Q.length by omega, at0] at hlt
 rw [at1, show Q.length + 1 - 1 = Q.length by omega, at0, swap_eq]
 refine ⟨Q, x, y :: S, R, by simp, rfl, by simp at h3 ⊢; omega, ?_, by simpa using h5, ?_⟩
 ·rw [hl] at h4
  exact ((List.Perm.swap y x (S ++ R)).append_left Q).trans h4
 ·intro s hs
  rcases List.mem_cons.1 hs with rfl | hs
  ·exact hlt
  ·exact h6 s hs
theorem InvI.done (ha : ∀ {a b : α}, lt a b = true → lt b a = false) (hn : ∀ {a b c : α}, lt b a = false → lt c b = false → lt c a = false) (h : InvI lt l0 i j l) (hx : j = 0 ∨ lt (l.getD j d) (l.getD (j - 1) d) = false) : InvO lt l0 (i + 1) l := by
 obtain ⟨P, x, S, R, h1, h2, h3, h4, h5, h6⟩ := h
 refine ⟨P ++ x :: S, R, by rw [h1]; simp, by rw [h1]; simp; omega, h4, ?_⟩
 unfold OrdL at h5 ⊢
 obtain ⟨k1, k2, k3⟩ := List.pairwise_append.1 h5
 refine List.pairwise_append.2 ⟨k1, List.pairwise_cons.2 ⟨fun s hs => ha (h6 s hs), k2⟩, fun a hA b hb => ?_⟩
 rcases List.mem_cons.1 hb with rfl | hb
 ·rcases hx with hx | hx
  ·subst hx; rw [List.eq_nil_of_length_eq_zero h2] at hA; cases hA
  ·obtain ⟨Q, y, rfl⟩ := snocOf (P := P) (List.length_pos_of_mem hA)
   have hl : l = Q ++ y :: b :: (S ++ R) := by rw [h1]; simp
   have hj' : j = Q.length + 1 := by rw [← h2]; simp
   subst hj'
   rw [hl, at1, show Q.length + 1 - 1 = Q.length by omega, at0] at hx
   rcases List.mem_append.1 hA with hA | hA
   ·have := (List.pairwise_append.1 k1).2.2 a hA y (by simp)
    exact hn this hx
   ·simp at hA; subst hA; exact hx
 ·exact k3 a hA b hb
theorem InvO.all (h : InvO lt l0 i l) (hi : l.length ≤ i) : l.Perm l0 ∧ OrdL lt l := by
 obtain ⟨P, R, h1, h2, h3, h4⟩ := h
 rw [Nat.min_eq_right hi] at h2
 have : R = [] := by rw [h1] at h2; simpa using h2
 subst this
 rw [List.append_nil] at h1
 subst h1
 exact ⟨h3, h4⟩
theorem ord_unique : ∀ {l r : List α}, l.Perm r → l.Nodup → (∀ a ∈ l, ∀ b ∈ l, a ≠ b → lt a b = false → lt b a = true) → OrdL lt l → OrdL lt r → l = r
 | [], r, h, _, _, _, _ => (List.nil_perm.1 h).symm
 | x :: l, [], h, _, _, _, _ => by simp at h
 | x :: l, y :: r, h, hd, ht, h1, h2 => by
  obtain ⟨h1a, h1b⟩ := List.pairwise_cons.1 h1
  obtain ⟨h2a, h2b⟩ := List.pairwise_cons.1 h2
  have hxy : x = y := by
   by_cases e : x = y
   ·exact e
   ·exfalso
    have hy : y ∈ l := by
     have := h.symm.subset (List.mem_cons_self (a := y) (l := r))
     rcases List.mem_cons.1 this with e' | h'
     ·exact absurd e'.symm e
     ·exact h'
    have hx : x ∈ r := by
     have := h.subset (List.mem_cons_self (a := x) (l := l))
     rcases List.mem_cons.1 this with e' | h'
     ·exact absurd e' e
     ·exact h'
    have q1 := h1a y hy
    have q2 := h2a x hx
    have := ht x (by simp) y (by simp [hy]) e q2
    rw [this] at q1; cases q1
  subst hxy
  rw [ord_unique ((List.perm_cons x).1 h) (List.nodup_cons.1 hd).2 (fun a ha b hb => ht a (by simp [ha]) b (by simp [hb])) h1b h2b]
end
end Go.Proofs.YtemnnmohdpabhaaGreatDoor
namespace Go.Proofs.YtemnnmohdpabhaaGreatDoor
open Go.RowKit
set_option linter.unusedVariables false
set_option linter.unusedSimpArgs false
def swp (l : List Int) (j : Nat) : List Int := (l.set j (l.getD (j - 1) 0)).set (j - 1) (l.getD j 0)
theorem swp_perm {l : List Int} {j : Nat} (h0 : 0 < j) (h : j < l.length) : (swp l j).Perm l := by
 obtain ⟨q, rfl⟩ : ∃ q, j = q + 1 := ⟨j - 1, by omega⟩
 have e : l = l.take q ++ l[q] :: l[q + 1] :: l.drop (q + 2) := by
  conv => lhs; rw [← List.take_append_drop q l]
  rw [List.drop_eq_getElem_cons (by omega : q < l.length), List.drop_eq_getElem_cons (by omega : q + 1 < l.length)]
 have hq : (l.take q).length = q := by simp; omega
 have h1 : l.getD (q + 1 - 1) 0 = l[q] := by simp [show q < l.length by omega]
 have h2 : l.getD (q + 1) 0 = l[q + 1] := by simp [h]
 unfold swp
 rw [h1, h2, show q + 1 - 1 = q by omega]
 have hs := swap_eq (Q := l.take q) (T := l.drop (q + 2)) (x := l[q + 1]) (y := l[q])
 rw [← e, hq] at hs
 rw [hs]
 conv => rhs; rw [e]
 exact (List.Perm.swap _ _ _).append_left _
def downI (c : Int → Int → Int) : Nat → List Int → List Int
 | 0, l => l
 | j + 1, l => if c (l.getD (j + 1) 0) (l.getD j 0) < 0 then downI c j (swp l (j + 1)) else l
theorem downI_perm (c : Int → Int → Int) : ∀ (j : Nat) (l : List Int), j < l.length ∨ l.length = 0 ∨ j = 0 → (downI c j l).Perm l
 | 0, l, _ => .refl _
 | j + 1, l, h => by
  rw [downI]
  split
  ·by_cases hl : j + 1 < l.length
   ·have hp := swp_perm (l := l) (j := j + 1) (by omega) hl
    exact (downI_perm c j _ (.inl (by rw [hp.length_eq]; omega))).trans hp
   ·have h0 : l = [] := List.eq_nil_of_length_eq_zero (by omega)
    subst h0
    have : swp [] (j + 1) = [] := rfl
    rw [this]
    exact downI_perm c j [] (.inr (.inl rfl))
  ·exact .refl _
theorem downI_t {c : Int → Int → Int} {l : List Int} {j : Nat} (h0 : 0 < j) (h : c (l.getD j 0) (l.getD (j - 1) 0) < 0) : downI c j l = downI c (j - 1) (swp l j) := by
 obtain ⟨q, rfl⟩ : ∃ q, j = q + 1 := ⟨j - 1, by omega⟩
 rw [downI, if_pos (by simpa using h)]; rfl
theorem downI_f {c : Int → Int → Int} {l : List Int} {j : Nat} (h : j = 0 ∨ ¬ c (l.getD j 0) (l.getD (j - 1) 0) < 0) : downI c j l = l := by
 cases j with
 | zero => rfl
 | succ q =>
  rcases h with h | h
  ·omega
  ·rw [downI, if_neg (by simpa using h)]
def insT (c : Int → Int → Int) (l : List Int) : Nat → List Int
 | 0 => l
 | i + 1 => downI c (i + 1) (insT c l i)
theorem insT_perm (c : Int → Int → Int) (l : List Int) : ∀ i, i < l.length ∨ i = 0 → (insT c l i).Perm l
 | 0, _ => .refl _
 | i + 1, h => by
  have ih := insT_perm c l i (by omega)
  exact (downI_perm c (i + 1) _ (.inl (by rw [ih.length_eq]; omega))).trans ih
theorem insT_at {c : Int → Int → Int} {l : List Int} {i : Nat} (h : 0 < i) : insT c l i = downI c i (insT c l (i - 1)) := by
 obtain ⟨q, rfl⟩ : ∃ q, i = q + 1 := ⟨i - 1, by omega⟩
 rfl
theorem mem_of {l l0 : List Int} (h : l.Perm l0) {j : Nat} (hj : j < l.length) : l.getD j 0 ∈ l0 := h.subset (by rw [List.getD_eq_getElem?_getD, List.getElem?_eq_getElem hj]; exact List.getElem_mem hj)
set_option maxRecDepth 100000 in
set_option maxHeartbeats 4000000 in
theorem insSortC_int {l0 : List Int} {u : Value} {ty : TypeId} {F : FuncId} {cs : List AV} {c : Int → Int → Int} (hl : l0.length ≤ 1000000) (hcall : ∀ us w, (callFunc F us).run Tryz.prog w = .ok (.enter F us) w) (hF : ∀ x y, x ∈ l0 → y ∈ l0 → Spec Tryz.prog F ([avI x, avI y] ++ cs) (fun z => z = avI (c x y))) :
  SpecH Tryz.prog 243 [.v u, avI 0, avI l0.length, .fn F cs] [.row u l0.length 1 (intsL l0) ty] (fun y hp' => y = .tup [] ∧ hp' = [.row u l0.length 1 (intsL (insT c l0 (l0.length - 1))) ty]) := by
 refine SpecH.of_VC Tryz.func243 rfl Tryz.ntmps243 (Nle rfl) fun w A hB => ?_
 have hnew : True := trivial
 refine VC.sr ?_
 refine VO.mv rfl rfl rfl rfl ?_
 refine VO.val rfl rfl (OpV.add rfl rfl rfl (by unfold fits; omega)) ?_
 refine VO.ma rfl rfl rfl rfl ?_
 refine VO.nil ?_
 refine VC.block ?_
 refine VC.loopK [(0, _), (1, _), (2, _), (3, _)] ⟨rfl, rfl, rfl, rfl, trivial⟩ ({i : Nat // 0 < i ∧ i ≤ max 1 l0.length}) (fun (iZ : {i : Nat // 0 < i ∧ i ≤ max 1 l0.length}) => match iZ with | ⟨i, hi0, hin⟩ => [(8, avI (i : Int))]) (fun (iZ : {i : Nat // 0 < i ∧ i ≤ max 1 l0.length}) => match iZ with | ⟨i, hi0, hin⟩ => [.row u l0.length 1 (intsL (insT c l0 (i - 1))) ty]) (fun (iZ : {i : Nat // 0 < i ∧ i ≤ max 1 l0.length}) => match iZ with | ⟨i, hi0, hin⟩ => 0) (fun (iZ : {i : Nat // 0 < i ∧ i ≤ max 1 l0.length}) => match iZ with | ⟨i, hi0, hin⟩ => l0.length - i) ⟨1, Nat.one_pos, by omega⟩ (Le.mk hB [0] ⟨rfl, rfl, rfl, rfl, rfl, trivial⟩ rfl rfl (Nat.le_refl _)) ?_
 rintro ⟨i, hi0, hin⟩
 show VC _ _ _ _ ⟨[(8, avI (i : Int))] ++ [(0, _), (1, _), (2, _), (3, _)], [.row u l0.length 1 (intsL (insT c l0 (i - 1))) ty], 0⟩
 refine VC.seq ?_
 refine VC.sr ?_
 refine VO.mv rfl rfl rfl rfl ?_
 refine VO.mv rfl rfl rfl rfl ?_
 refine VO.val rfl rfl (OpV.lss rfl rfl rfl) ?_
 refine VO.nil ?_
 refine VC.cond rfl (fun aH1b => ?_) (fun aH1b => ?_)
 ·have aH1 := aH1b
  try simp only [qqT, qqF, qqN, qqM, qqL, qqE] at aH1
  refine VC.skip ?_
  refine VC.seq ?_
  refine VC.block ?_
  refine VC.sr ?_
  refine VO.mv rfl rfl rfl rfl ?_
  refine VO.ma rfl rfl rfl rfl ?_
  refine VO.nil ?_
  refine VC.block ?_
  have hpi := insT_perm c l0 (i - 1) (by omega)
  refine VC.asBox (i := 0) rfl (by omega) (fun g cap hu hcap hmx => ?_)
  subst hu
  refine VC.loopK [(0, _), (1, _), (2, _), (3, _), (8, _)] ⟨rfl, rfl, rfl, rfl, rfl, trivial⟩ ({z : Nat × List Int // z.1 ≤ i ∧ downI c z.1 z.2 = insT c l0 i ∧ z.2.Perm l0}) (fun (iZ : {z : Nat × List Int // z.1 ≤ i ∧ downI c z.1 z.2 = insT c l0 i ∧ z.2.Perm l0}) => match iZ with | ⟨⟨j, l2⟩, hji, hd, hpl⟩ => [(9, avI (j : Int))]) (fun (iZ : {z : Nat × List Int // z.1 ≤ i ∧ downI c z.1 z.2 = insT c l0 i ∧ z.2.Perm l0}) => match iZ with | ⟨⟨j, l2⟩, hji, hd, hpl⟩ => [.box g ⟨intsL l2, ty, cap * 1⟩]) (fun (iZ : {z : Nat × List Int // z.1 ≤ i ∧ downI c z.1 z.2 = insT c l0 i ∧ z.2.Perm l0}) => match iZ with | ⟨⟨j, l2⟩, hji, hd, hpl⟩ => 0) (fun (iZ : {z : Nat × List Int // z.1 ≤ i ∧ downI c z.1 z.2 = insT c l0 i ∧ z.2.Perm l0}) => match iZ with | ⟨⟨j, l2⟩, hji, hd, hpl⟩ => j) ⟨(i, insT c l0 (i - 1)), Nat.le_refl _, (insT_at hi0).symm, hpi⟩ (Le.mk hB [0] ⟨rfl, rfl, rfl, rfl, rfl, rfl, trivial⟩ rfl rfl (Nat.le_refl _)) ?_
  rintro ⟨⟨j, l2⟩, hji, hd, hpl⟩
  show VC _ _ _ _ ⟨[(9, avI (j : Int))] ++ [(0, _), (1, _), (2, _), (3, _), (8, _)], [.box g ⟨intsL l2, ty, cap * 1⟩], 0⟩
  simp only at hji hd hpl
  have hlen2 := hpl.length_eq
  refine VC.seq ?_
  refine VC.seq ?_
  refine VC.draw (fun _ => NoB) hB (by kernel_rfl) ?_
  refine VA.take (i := 0) rfl (by kernel_rfl) (by kernel_rfl) (by kernel_rfl) rfl rfl (OpV.move (.inl rfl) rfl) ?_
  refine VA.take (i := 1) rfl (by kernel_rfl) (by kernel_rfl) (by kernel_rfl) rfl rfl (OpV.move (.inl rfl) rfl) ?_
  refine VA.take (i := 2) rfl (by kernel_rfl) (by kernel_rfl) (by kernel_rfl) rfl rfl (OpV.gtr rfl rfl rfl) ?_
  refine VA.take (i := 3) rfl (by kernel_rfl) (by kernel_rfl) (by kernel_rfl) rfl rfl (OpV.move (.inl rfl) rfl) ?_
  refine VA.split (t := 21) rfl (fun aK2b => ?_) (fun aK2b => ?_)
  ·have aK2 := aK2b
   try simp only [qqT, qqF, qqN, qqM, qqL, qqE] at aK2
   refine VA.takeY (i := 4) rfl (by kernel_rfl) (by kernel_rfl) (by kernel_rfl) rfl rfl rfl rfl aK2b (OpV.move (.inl rfl) rfl) ?_
   refine VA.takeY (i := 5) rfl (by kernel_rfl) (by kernel_rfl) (by kernel_rfl) rfl rfl rfl rfl aK2b (OpV.move (.inl rfl) rfl) ?_
   refine VA.takeY (i := 6) rfl (by kernel_rfl) (by kernel_rfl) (by kernel_rfl) rfl rfl rfl rfl aK2b (OpV.move (.inl rfl) rfl) ?_
   refine VA.takeY (i := 7) rfl (by kernel_rfl) (by kernel_rfl) (by kernel_rfl) rfl rfl rfl rfl aK2b (OpV.indexAddr_o rfl Tryz.underlying22 Tryz.sizeOf3 rfl rfl rfl (by omega)) ?_
   refine VA.takeY (i := 8) rfl (by kernel_rfl) (by kernel_rfl) (by kernel_rfl) rfl rfl rfl rfl aK2b (OpV.load_own (i := 0) rfl hB Tryz.isAgg3 rfl rfl (intsL_get (j := j) (by omega)) Wi.not0) ?_
   refine VA.takeY (i := 9) rfl (by kernel_rfl) (by kernel_rfl) (by kernel_rfl) rfl rfl rfl rfl aK2b (OpV.move (.inl rfl) rfl) ?_
   refine VA.takeY (i := 10) rfl (by kernel_rfl) (by kernel_rfl) (by kernel_rfl) rfl rfl rfl rfl aK2b (OpV.move (.inl rfl) rfl) ?_
   refine VA.takeY (i := 11) rfl (by kernel_rfl) (by kernel_rfl) (by kernel_rfl) rfl rfl rfl rfl aK2b (OpV.sub rfl rfl rfl (by unfold fits; omega)) ?_
   refine VA.takeY (i := 12) rfl (by kernel_rfl) (by kernel_rfl) (by kernel_rfl) rfl rfl rfl rfl aK2b (OpV.indexAddr_o rfl Tryz.underlying22 Tryz.sizeOf3 rfl rfl (show (j : Int) - 1 = ((j - 1 : Nat) : Int) by omega) (by omega)) ?_
   refine VA.takeY (i := 13) rfl (by kernel_rfl) (by kernel_rfl) (by kernel_rfl) rfl rfl rfl rfl aK2b (OpV.load_own (i := 0) rfl hB Tryz.isAgg3 rfl rfl (intsL_get (j := j - 1) (by omega)) Wi.not0) ?_
   refine VA.all (rs := [14]) (by kernel_rfl) (by decide) ?_
   refine ⟨⟨_, rfl, .inr ⟨_, _, _, rfl, rfl, (look_k rfl aK2b)⟩, ?_⟩, trivial⟩
   refine OpE.callF rfl hB rfl hcall rfl rfl (hF _ _ (mem_of hpl (by omega)) (mem_of hpl (by omega))) ?_
   rintro _ rfl
   refine VA.takeY (i := 15) rfl (by kernel_rfl) (by kernel_rfl) (by kernel_rfl) rfl rfl rfl rfl aK2b (OpV.lss rfl rfl rfl) ?_
   refine VA.take (i := 16) rfl (by kernel_rfl) (by kernel_rfl) (by kernel_rfl) rfl rfl (OpV.pickT rfl rfl rfl rfl aK2b) ?_
   refine VA.done (by kernel_rfl) ?_
   refine VC.cond rfl (fun hcb => ?_) (fun hcb => ?_)
   ·have hc := hcb
    try simp only [qqT, qqF, qqN, qqM, qqL, qqE] at hc
    refine VC.skip ?_
    refine VC.seq ?_
    refine VC.block ?_
    refine VC.draw (fun j b => j ∈ [15, 17] ∧ b = g) hB (by kernel_rfl) ?_
    refine VA.take (i := 0) rfl (by kernel_rfl) (by kernel_rfl) (by kernel_rfl) rfl rfl (OpV.move (.inl rfl) rfl) ?_
    refine VA.take (i := 1) rfl (by kernel_rfl) (by kernel_rfl) (by kernel_rfl) rfl rfl (OpV.move (.inl rfl) rfl) ?_
    refine VA.take (i := 2) rfl (by kernel_rfl) (by kernel_rfl) (by kernel_rfl) rfl rfl (OpV.move (.inl rfl) rfl) ?_
    refine VA.take (i := 3) rfl (by kernel_rfl) (by kernel_rfl) (by kernel_rfl) rfl rfl (OpV.move (.inl rfl) rfl) ?_
    refine VA.take (i := 4) rfl (by kernel_rfl) (by kernel_rfl) (by kernel_rfl) rfl rfl (OpV.sub rfl rfl rfl (by unfold fits; omega)) ?_
    refine VA.take (i := 5) rfl (by kernel_rfl) (by kernel_rfl) (by kernel_rfl) rfl rfl (OpV.move (.inl rfl) rfl) ?_
    refine VA.take (i := 6) rfl (by kernel_rfl) (by kernel_rfl) (by kernel_rfl) rfl rfl (OpV.move (.inl rfl) rfl) ?_
    refine VA.take (i := 7) rfl (by kernel_rfl) (by kernel_rfl) (by kernel_rfl) rfl rfl (OpV.sub rfl rfl rfl (by unfold fits; omega)) ?_
    refine VA.take (i := 8) rfl (by kernel_rfl) (by kernel_rfl) (by kernel_rfl) rfl rfl (OpV.indexAddr_o rfl Tryz.underlying22 Tryz.sizeOf3 rfl rfl (show (j : Int) - 1 = ((j - 1 : Nat) : Int) by omega) (by omega)) ?_
    refine VA.take (i := 9) rfl (by kernel_rfl) (by kernel_rfl) (by kernel_rfl) rfl rfl (OpV.load_own (i := 0) rfl hB Tryz.isAgg3 rfl rfl (intsL_get (j := j - 1) (by omega)) (Wi.notD (by kernel_rfl))) ?_
    refine VA.take (i := 10) rfl (by kernel_rfl) (by kernel_rfl) (by kernel_rfl) rfl rfl (OpV.move (.inl rfl) rfl) ?_
    refine VA.take (i := 11) rfl (by kernel_rfl) (by kernel_rfl) (by kernel_rfl) rfl rfl (OpV.move (.inl rfl) rfl) ?_
    refine VA.take (i := 12) rfl (by kernel_rfl) (by kernel_rfl) (by kernel_rfl) rfl rfl (OpV.indexAddr_o rfl Tryz.underlying22 Tryz.sizeOf3 rfl rfl rfl (by omega)) ?_
    refine VA.take (i := 13) rfl (by kernel_rfl) (by kernel_rfl) (by kernel_rfl) rfl rfl (OpV.load_own (i := 0) rfl hB Tryz.isAgg3 rfl rfl (intsL_get (j := j) (by omega)) (Wi.notD (by kernel_rfl))) ?_
    refine VA.take (i := 14) rfl (by kernel_rfl) (by kernel_rfl) (by kernel_rfl) rfl rfl (OpV.indexAddr_o rfl Tryz.underlying22 Tryz.sizeOf3 rfl rfl rfl (by omega)) ?_
    refine VA.all (rs := [15]) (by kernel_rfl) (by decide) ?_
    refine ⟨⟨_, rfl, .inl rfl, ?_⟩, trivial⟩
    refine OpE.store1 (i := 0) rfl hB rfl Tryz.sizeOf3 rfl rfl rfl rfl rfl rfl (by rw [intsL_len]; omega) (intsL_set _ _ _) (by first | exact ⟨rfl, rfl⟩ | exact .inl ⟨rfl, rfl⟩ | exact .inr ⟨rfl, rfl⟩ | exact ⟨rfl, trivial⟩ | exact .inl ⟨rfl, trivial⟩ | exact .inr ⟨rfl, trivial⟩ | exact ⟨by decide, rfl⟩) ?_
    refine VA.take (i := 16) rfl (by kernel_rfl) (by kernel_rfl) (by kernel_rfl) rfl rfl (OpV.indexAddr_o rfl Tryz.underlying22 Tryz.sizeOf3 rfl rfl (show (j : Int) - 1 = ((j - 1 : Nat) : Int) by omega) (by omega)) ?_
    refine VA.all (rs := [17]) (by kernel_rfl) (by decide) ?_
    refine ⟨⟨_, rfl, .inl rfl, ?_⟩, trivial⟩
    refine OpE.store1 (i := 0) rfl hB rfl Tryz.sizeOf3 rfl rfl rfl rfl rfl rfl (by rw [intsL_len, List.length_set]; omega) (intsL_set _ _ _) (by first | exact ⟨rfl, rfl⟩ | exact .inl ⟨rfl, rfl⟩ | exact .inr ⟨rfl, rfl⟩ | exact ⟨rfl, trivial⟩ | exact .inl ⟨rfl, trivial⟩ | exact .inr ⟨rfl, trivial⟩ | exact ⟨by decide, rfl⟩) ?_
    refine VA.done (by kernel_rfl) ?_
    refine VC.region ?_
    refine VO.mv rfl rfl rfl rfl ?_
    refine VO.val rfl rfl (OpV.sub rfl rfl rfl (by unfold fits; omega)) ?_
    refine VO.ma rfl rfl rfl rfl ?_
    refine VO.nil ?_
    exact Exists.intro (⟨(j - 1, swp l2 j), by show j - 1 ≤ i; omega, by rw [← hd]; exact (downI_t (by omega) hc).symm, (swp_perm (by omega) (by omega)).trans hpl⟩) (And.intro (Le.mk hB [0] ⟨(by rw [show ((j - 1 : Nat) : Int) = (j : Int) - 1 by omega]; rfl), rfl, rfl, rfl, rfl, rfl, trivial⟩ rfl rfl (Nat.le_refl _)) (by first | omega | (show _ < _; omega) | (simp only []; omega)))
   ·have hc := hcb
    try simp only [qqT, qqF, qqN, qqM, qqL, qqE] at hc
    have hex : l2 = insT c l0 i := by first | exact (downI_f (.inl (by omega))).symm.trans hd | exact (downI_f (.inr (by omega))).symm.trans hd
    refine VC.le _ (Le.boxRow (i := 0) (n := l0.length) rfl (by rw [intsL_len, hlen2]; omega) hcap hmx) ?_
    refine VC.exit ?_
    refine VC.region ?_
    refine VO.mv rfl rfl rfl rfl ?_
    refine VO.val rfl rfl (OpV.add rfl rfl rfl (by unfold fits; omega)) ?_
    refine VO.ma rfl rfl rfl rfl ?_
    refine VO.nil ?_
    exact Exists.intro (⟨i + 1, Nat.succ_pos _, by omega⟩) (And.intro (Le.mk hB [0] ⟨rfl, rfl, rfl, rfl, rfl, trivial⟩ rfl (by dsimp only; rw [show i + 1 - 1 = i by omega, ← hex]; rfl) (Nat.le_refl _)) (by first | omega | (show _ < _; omega) | (simp only []; omega)))
  ·have aK2 := aK2b
   try simp only [qqT, qqF, qqN, qqM, qqL, qqE] at aK2
   refine VA.takeX (i := 4) rfl (by kernel_rfl) (by kernel_rfl) (by kernel_rfl) rfl rfl rfl rfl aK2b ?_
   refine VA.takeX (i := 5) rfl (by kernel_rfl) (by kernel_rfl) (by kernel_rfl) rfl rfl rfl rfl aK2b ?_
   refine VA.takeX (i := 6) rfl (by kernel_rfl) (by kernel_rfl) (by kernel_rfl) rfl rfl rfl rfl aK2b ?_
   refine VA.takeX (i := 7) rfl (by kernel_rfl) (by kernel_rfl) (by kernel_rfl) rfl rfl rfl rfl aK2b ?_
   refine VA.takeX (i := 8) rfl (by kernel_rfl) (by kernel_rfl) (by kernel_rfl) rfl rfl rfl rfl aK2b ?_
   refine VA.takeX (i := 9) rfl (by kernel_rfl) (by kernel_rfl) (by kernel_rfl) rfl rfl rfl rfl aK2b ?_
   refine VA.takeX (i := 10) rfl (by kernel_rfl) (by kernel_rfl) (by kernel_rfl) rfl rfl rfl rfl aK2b ?_
   refine VA.takeX (i := 11) rfl (by kernel_rfl) (by kernel_rfl) (by kernel_rfl) rfl rfl rfl rfl aK2b ?_
   refine VA.takeX (i := 12) rfl (by kernel_rfl) (by kernel_rfl) (by kernel_rfl) rfl rfl rfl rfl aK2b ?_
   refine VA.takeX (i := 13) rfl (by kernel_rfl) (by kernel_rfl) (by kernel_rfl) rfl rfl rfl rfl aK2b ?_
   refine VA.takeX (i := 14) rfl (by kernel_rfl) (by kernel_rfl) (by kernel_rfl) rfl rfl rfl rfl aK2b ?_
   refine VA.takeX (i := 15) rfl (by kernel_rfl) (by kernel_rfl) (by kernel_rfl) rfl rfl rfl rfl aK2b ?_
   refine VA.take (i := 16) rfl (by kernel_rfl) (by kernel_rfl) (by kernel_rfl) rfl rfl (OpV.pickF rfl rfl rfl rfl aK2b) ?_
   refine VA.done (by kernel_rfl) ?_
   refine VC.condF rfl rfl ?_
   have hex : l2 = insT c l0 i := by first | exact (downI_f (.inl (by omega))).symm.trans hd | exact (downI_f (.inr (by omega))).symm.trans hd
   refine VC.le _ (Le.boxRow (i := 0) (n := l0.length) rfl (by rw [intsL_len, hlen2]; omega) hcap hmx) ?_
   refine VC.exit ?_
   refine VC.region ?_
   refine VO.mv rfl rfl rfl rfl ?_
   refine VO.val rfl rfl (OpV.add rfl rfl rfl (by unfold fits; omega)) ?_
   refine VO.ma rfl rfl rfl rfl ?_
   refine VO.nil ?_
   exact Exists.intro (⟨i + 1, Nat.succ_pos _, by omega⟩) (And.intro (Le.mk hB [0] ⟨rfl, rfl, rfl, rfl, rfl, trivial⟩ rfl (by dsimp only; rw [show i + 1 - 1 = i by omega, ← hex]; rfl) (Nat.le_refl _)) (by first | omega | (show _ < _; omega) | (simp only []; omega)))
 ·have aH1 := aH1b
  try simp only [qqT, qqF, qqN, qqM, qqL, qqE] at aH1
  have hie : i - 1 = l0.length - 1 := by omega
  rw [hie]
  refine VC.exit ?_
  exact Exists.intro _ (And.intro (RetV.none Tryz.results243) (⟨rfl, rfl⟩))
set_option maxRecDepth 100000 in
set_option maxHeartbeats 4000000 in
theorem stableC_int {l0 : List Int} {u : Value} {ty : TypeId} {F : FuncId} {cs : List AV} {c : Int → Int → Int} (hl : l0.length < 20) (hcall : ∀ us w, (callFunc F us).run Tryz.prog w = .ok (.enter F us) w) (hF : ∀ x y, x ∈ l0 → y ∈ l0 → Spec Tryz.prog F ([avI x, avI y] ++ cs) (fun z => z = avI (c x y))) :
  SpecH Tryz.prog 177 [.v u, avI l0.length, .fn F cs] [.row u l0.length 1 (intsL l0) ty] (fun y hp' => y = .tup [] ∧ hp' = [.row u l0.length 1 (intsL (insT c l0 (l0.length - 1))) ty]) := by
 refine SpecH.of_VC Tryz.func177 rfl Tryz.ntmps177 (Nle rfl) fun w A hB => ?_
 have hnew : True := trivial
 refine VC.sr ?_
 refine VO.ma rfl rfl rfl rfl ?_
 refine VO.nil ?_
 refine VC.sr ?_
 refine VO.mv rfl rfl rfl rfl ?_
 refine VO.ma rfl rfl rfl rfl ?_
 refine VO.ma rfl rfl rfl rfl ?_
 refine VO.nil ?_
 refine VC.seq ?_
 refine VC.block ?_
 refine VC.loopK [(0, _), (1, _), (2, _), (6, _)] ⟨rfl, rfl, rfl, rfl, trivial⟩ ({z : Nat // z = 0}) (fun (iZ : {z : Nat // z = 0}) => match iZ with | ⟨z, hz⟩ => [(7, avI 0), (8, avI 20)]) (fun (iZ : {z : Nat // z = 0}) => match iZ with | ⟨z, hz⟩ => [.row u l0.length 1 (intsL l0) ty]) (fun (iZ : {z : Nat // z = 0}) => match iZ with | ⟨z, hz⟩ => 0) (fun (iZ : {z : Nat // z = 0}) => match iZ with | ⟨z, hz⟩ => z) ⟨0, rfl⟩ (Le.mk hB [0] ⟨rfl, rfl, rfl, rfl, rfl, rfl, trivial⟩ rfl rfl (Nat.le_refl _)) ?_
 rintro ⟨z, hz⟩
 show VC _ _ _ _ ⟨[(7, avI 0), (8, avI 20)] ++ [(0, _), (1, _), (2, _), (6, _)], [.row u l0.length 1 (intsL l0) ty], 0⟩
 refine VC.seq ?_
 refine VC.sr ?_
 refine VO.mv rfl rfl rfl rfl ?_
 refine VO.mv rfl rfl rfl rfl ?_
 refine VO.val rfl rfl (OpV.leq rfl rfl rfl) ?_
 refine VO.nil ?_
 refine VC.cond rfl (fun aH1b => ?_) (fun aH1b => ?_)
 ·have aH1 := aH1b
  try simp only [qqT, qqF, qqN, qqM, qqL, qqE] at aH1
  exact VC.absurd (by omega)
 ·have aH1 := aH1b
  try simp only [qqT, qqF, qqN, qqM, qqL, qqE] at aH1
  refine VC.exit ?_
  refine VC.sr ?_
  refine VO.mv rfl rfl rfl rfl ?_
  refine VO.mv rfl rfl rfl rfl ?_
  refine VO.mv rfl rfl rfl rfl ?_
  refine VO.mv rfl rfl rfl rfl ?_
  refine VO.op rfl (OpE.callH0 rfl hB rfl Tryz.call243 rfl rfl (insSortC_int (by omega) hcall hF) (List.Perm.refl _) (fun _ _ => trivial) ?_)
  rintro _ _ ⟨rfl, rfl⟩
  refine VO.nil ?_
  refine VC.block ?_
  refine VC.loopK [(0, _), (1, _), (2, _)] ⟨rfl, rfl, rfl, trivial⟩ ({z : Nat // z = 0}) (fun (iZ : {z : Nat // z = 0}) => match iZ with | ⟨z, hz⟩ => [(6, avI 20)]) (fun (iZ : {z : Nat // z = 0}) => match iZ with | ⟨z, hz⟩ => [.row u l0.length 1 (intsL (insT c l0 (l0.length - 1))) ty]) (fun (iZ : {z : Nat // z = 0}) => match iZ with | ⟨z, hz⟩ => 0) (fun (iZ : {z : Nat // z = 0}) => match iZ with | ⟨z, hz⟩ => z) ⟨0, rfl⟩ (Le.mk hB [0] ⟨rfl, rfl, rfl, rfl, trivial⟩ rfl rfl (Nat.le_refl _)) ?_
  rintro ⟨z, hz⟩
  show VC _ _ _ _ ⟨[(6, avI 20)] ++ [(0, _), (1, _), (2, _)], [.row u l0.length 1 (intsL (insT c l0 (l0.length - 1))) ty], 0⟩
  refine VC.seq ?_
  refine VC.sr ?_
  refine VO.mv rfl rfl rfl rfl ?_
  refine VO.mv rfl rfl rfl rfl ?_
  refine VO.val rfl rfl (OpV.lss rfl rfl rfl) ?_
  refine VO.nil ?_
  refine VC.cond rfl (fun aH2b => ?_) (fun aH2b => ?_)
  ·have aH2 := aH2b
   try simp only [qqT, qqF, qqN, qqM, qqL, qqE] at aH2
   exact VC.absurd (by omega)
  ·have aH2 := aH2b
   try simp only [qqT, qqF, qqN, qqM, qqL, qqE] at aH2
   refine VC.exit ?_
   exact Exists.intro _ (And.intro (RetV.none Tryz.results177) (⟨rfl, rfl⟩))
set_option maxRecDepth 100000 in
theorem sortStable_int {l0 : List Int} {u : Value} {ty : TypeId} {F : FuncId} {cs : List AV} {c : Int → Int → Int} (hl : l0.length < 20) (hcall : ∀ us w, (callFunc F us).run Tryz.prog w = .ok (.enter F us) w) (hF : ∀ x y, x ∈ l0 → y ∈ l0 → Spec Tryz.prog F ([avI x, avI y] ++ cs) (fun z => z = avI (c x y))) :
  SpecH Tryz.prog 86 [.v u, .fn F cs] [.row u l0.length 1 (intsL l0) ty] (fun y hp' => y = .tup [] ∧ hp' = [.row u l0.length 1 (intsL (insT c l0 (l0.length - 1))) ty]) := by
 refine SpecH.of_VC Tryz.func86 rfl Tryz.ntmps86 (Nle rfl) fun w A hB => ?_
 have hnew : True := trivial
 refine VC.region ?_
 refine VO.mv rfl rfl rfl rfl ?_
 refine VO.mv rfl rfl rfl rfl ?_
 refine VO.val rfl rfl (OpV.len_row (i := 0) rfl Tryz.underlying22 rfl rfl) ?_
 refine VO.mv rfl rfl rfl rfl ?_
 refine VO.op rfl (OpE.callH0 rfl hB rfl Tryz.call177 rfl rfl (stableC_int hl hcall hF) (List.Perm.refl _) (fun _ _ => trivial) ?_)
 rintro _ _ ⟨rfl, rfl⟩
 refine VO.nil ?_
 exact Exists.intro _ (And.intro (RetV.none Tryz.results86) (⟨rfl, rfl⟩))
end Go.Proofs.YtemnnmohdpabhaaGreatDoor
namespace Go.Proofs.YtemnnmohdpabhaaGreatDoor
open Go.RowKit
set_option linter.unusedVariables false
set_option linter.unusedSimpArgs false
theorem getDs {l : List Int} {i j : Nat} {x : Int} (hi : i < l.length) : (l.set i x).getD j 0 = if j = i then x else l.getD j 0 := by
 by_cases e : j = i
 ·subst e; simp [hi]
 ·rw [if_neg e, List.getD_eq_getElem?_getD, List.getElem?_set_ne (Ne.symm e), ← List.getD_eq_getElem?_getD]
theorem swp_get {l : List Int} {j : Nat} (h0 : 0 < j) (h : j < l.length) (k : Nat) : (swp l j).getD k 0 = if k = j - 1 then l.getD j 0 else if k = j then l.getD (j - 1) 0 else l.getD k 0 := by
 unfold swp
 rw [getDs (by rw [List.length_set]; omega), getDs h]
theorem swp_len (l : List Int) (j : Nat) : (swp l j).length = l.length := by simp [swp]
theorem downI_congr {c1 c2 : Int → Int → Int} {x : Int} : ∀ (j : Nat) (l : List Int), j < l.length → l.getD j 0 = x → (∀ k, k < j → 0 ≤ l.getD k 0 ∧ l.getD k 0 < x) → (∀ y, 0 ≤ y → y < x → (c1 x y < 0 ↔ c2 x y < 0)) → downI c1 j l = downI c2 j l
 | 0, l, _, _, _, _ => rfl
 | j + 1, l, hl, hx, hp, hc => by
  have h1 := hc (l.getD j 0) (hp j (by omega)).1 (hp j (by omega)).2
  rw [downI, downI, hx]
  by_cases h : c1 x (l.getD j 0) < 0
  ·rw [if_pos h, if_pos (h1.1 h)]
   refine downI_congr j _ (by rw [swp_len]; omega) ?_ (fun k hk => ?_) hc
   ·rw [swp_get (by omega) hl, if_pos (by omega), hx]
   ·rw [swp_get (by omega) hl, if_neg (by omega), if_neg (by omega)]; exact hp k (by omega)
  ·rw [if_neg h, if_neg (fun h2 => h (h1.2 h2))]
theorem downI_keep {c : Int → Int → Int} {b : Int} : ∀ (j : Nat) (l : List Int), j < l.length → (∀ k, k ≤ j → l.getD k 0 ≤ b) → (∀ k, k ≤ j → (downI c j l).getD k 0 ≤ b) ∧ ∀ k, j < k → (downI c j l).getD k 0 = l.getD k 0
 | 0, l, _, h => ⟨h, fun _ _ => rfl⟩
 | j + 1, l, hl, h => by
  rw [downI]
  split
  ·have hs := swp_get (l := l) (j := j + 1) (by omega) hl
   obtain ⟨h1, h2⟩ := downI_keep (c := c) (b := b) j (swp l (j + 1)) (by rw [swp_len]; omega) (fun k hk => by
    rw [hs]; split
    ·exact h _ (Nat.le_refl _)
    ·split
     ·exact h _ (by omega)
     ·exact h k (by omega))
   refine ⟨fun k hk => ?_, fun k hk => ?_⟩
   ·by_cases e : k = j + 1
    ·rw [h2 k (by omega), hs, if_neg (by omega), if_pos e]; exact h _ (by omega)
    ·exact h1 k (by omega)
   ·rw [h2 k (by omega), hs, if_neg (by omega), if_neg (by omega)]
  ·exact ⟨h, fun _ _ => rfl⟩
theorem idO_getD {n k : Nat} (h : k < n) : (idO n).getD k 0 = (k : Int) := by
 unfold idO
 rw [List.getD_eq_getElem?_getD, List.getElem?_map, List.getElem?_range h]; rfl
theorem insT_idO {c1 c2 : Int → Int → Int} {n : Nat} (hc : ∀ x y : Int, 0 ≤ y → y < x → x < n → (c1 x y < 0 ↔ c2 x y < 0)) : ∀ i, i < n → insT c1 (idO n) i = insT c2 (idO n) i ∧ (insT c1 (idO n) i).length = n ∧ (∀ k, k ≤ i → 0 ≤ (insT c1 (idO n) i).getD k 0 ∧ (insT c1 (idO n) i).getD k 0 ≤ i) ∧ ∀ k, i < k → k < n → (insT c1 (idO n) i).getD k 0 = (k : Int)
 | 0, h => ⟨rfl, idO_len n, fun k hk => by rw [show k = 0 by omega]; show 0 ≤ (idO n).getD 0 0 ∧ (idO n).getD 0 0 ≤ _; rw [idO_getD h]; omega, fun k _ hk => idO_getD hk⟩
 | i + 1, h => by
  obtain ⟨h1, h2, h3, h4⟩ := insT_idO hc i (by omega)
  have hp := insT_perm c1 (idO n) (i + 1) (.inl (by rw [idO_len]; omega))
  rw [insT, insT, ← h1]
  have e1 := h4 (i + 1) (by omega) h
  have hk := downI_keep (c := c1) (b := ((i + 1 : Nat) : Int)) (i + 1) (insT c1 (idO n) i) (by omega) (fun k hk => by
   by_cases e : k = i + 1
   ·subst e; rw [e1]; exact Int.le_refl _
   ·have := (h3 k (by omega)).2; omega)
  have hmem : ∀ k, k < n → 0 ≤ (downI c1 (i + 1) (insT c1 (idO n) i)).getD k 0 := fun k hk' => by
   have hm : (downI c1 (i + 1) (insT c1 (idO n) i)).getD k 0 ∈ idO n := by
    refine hp.subset ?_
    show _ ∈ downI c1 (i + 1) (insT c1 (idO n) i)
    have hl : k < (downI c1 (i + 1) (insT c1 (idO n) i)).length := by rw [show (downI c1 (i + 1) (insT c1 (idO n) i)).length = n from (hp.length_eq.trans (idO_len n))]; exact hk'
    rw [List.getD_eq_getElem?_getD, List.getElem?_eq_getElem hl]; exact List.getElem_mem hl
   exact ((idO_ord n).lt _ hm).1
  refine ⟨?_, hp.length_eq.trans (idO_len n), fun k hk' => ⟨hmem k (by omega), hk.1 k hk'⟩, fun k hk' hn => by rw [hk.2 k hk']; exact h4 k (by omega) hn⟩
  refine downI_congr (x := ((i + 1 : Nat) : Int)) (i + 1) _ (by omega) e1 (fun k hk' => by have := h3 k (by omega); omega) (fun y hy0 hy => hc _ y hy0 hy (by omega))
end Go.Proofs.YtemnnmohdpabhaaGreatDoor
namespace Go.Proofs.YtemnnmohdpabhaaGreatDoor
open Go.RowKit
set_option linter.unusedVariables false
set_option linter.unusedSimpArgs false

structure PlaceS where
 name : ByteArray
 part : ByteArray
 x : Int
 y : Int
 quarter : Int
instance : Inhabited PlaceS := ⟨⟨ByteArray.empty, ByteArray.empty, 0, 0, 0⟩⟩
instance : Sxc PlaceS where
 k := 5
 pos := by decide
 cell m j := match j with
  | 0 => avS m.name
  | 1 => avS m.part
  | 2 => avI m.x
  | 3 => avI m.y
  | 4 => avI m.quarter
  | _ => .any
structure ProdS where
 key : ByteArray
 wide : Int
 high : Int
 places : List PlaceS
instance : Inhabited ProdS := ⟨⟨ByteArray.empty, 0, 0, []⟩⟩
section
variable {p : ProdS} {i : Nat}
end
theorem take_snocD {α : Type} {l : List α} {q : Nat} (h : q < l.length) (d : α) : l.take (q + 1) = l.take q ++ [l.getD q d] := by
 rw [List.take_add_one, List.getD_eq_getElem?_getD, List.getElem?_eq_getElem h]; rfl
end Go.Proofs.YtemnnmohdpabhaaGreatDoor
namespace Go.Proofs.YtemnnmohdpabhaaGreatDoor
open Go.RowKit
set_option linter.unusedVariables false
set_option linter.unusedSimpArgs false
theorem mxl_ge : ∀ (xs : List Int) (m : Int), m ≤ maxF m xs ∧ ∀ x ∈ xs, x ≤ maxF m xs
 | [], m => ⟨Int.le_refl _, fun x h => by simp at h⟩
 | x :: r, m => by
  obtain ⟨h2, h3⟩ := mxl_ge r (max m x)
  rw [maxF]
  refine ⟨by omega, fun y hy => ?_⟩
  rcases List.mem_cons.1 hy with rfl | hy
  ·omega
  ·exact h3 y hy
theorem mxl_le {v : Int} : ∀ {xs : List Int} {m : Int}, m ≤ v → (∀ x ∈ xs, x ≤ v) → maxF m xs ≤ v
 | [], m, h, _ => h
 | x :: r, m, h, h2 => by
  rw [maxF]
  exact mxl_le (by have := h2 x (List.mem_cons_self ..); omega) fun y hy => h2 y (List.mem_cons_of_mem _ hy)
theorem maxL_iff {xs : List Int} (h : 0 < xs.length) (v : Int) : maxL xs ≤ v ↔ ∀ x ∈ xs, x ≤ v := by
 cases xs with
 | nil => simp at h
 | cons x r =>
  show maxF x r ≤ v ↔ _
  have h2 := mxl_ge r x
  constructor
  ·intro hv y hy
   rcases List.mem_cons.1 hy with rfl | hy
   ·omega
   ·have := h2.2 y hy; omega
  ·intro hv; exact mxl_le (hv x (List.mem_cons_self ..)) fun y hy => hv y (List.mem_cons_of_mem _ hy)
theorem tabI_mem {n : Nat} {f : Nat → Int} {x : Int} : x ∈ tabI n f ↔ ∃ k, k < n ∧ f k = x := by
 unfold tabI; rw [List.mem_map]
 exact ⟨fun ⟨k, h, e⟩ => ⟨k, List.mem_range.1 h, e⟩, fun ⟨k, h, e⟩ => ⟨k, List.mem_range.2 h, e⟩⟩
theorem maxL_tab {n : Nat} {f : Nat → Int} (hn : 0 < n) (h0 : ∀ k, 0 ≤ f k) : maxL (tabI n f) = mxK f n := by
 have hl : 0 < (tabI n f).length := by rw [tabI_len]; exact hn
 have h1 := (maxL_iff hl (maxL (tabI n f))).1 (Int.le_refl _)
 have hf : ∀ k, k < n → f k ≤ maxL (tabI n f) := fun k hk => h1 _ (tabI_mem.2 ⟨k, hk, rfl⟩)
 refine Int.le_antisymm ?_ (mxK_up (Int.le_trans (h0 0) (hf 0 hn)) hf)
 refine (maxL_iff hl _).2 fun x hx => ?_
 obtain ⟨k, hk, rfl⟩ := tabI_mem.1 hx
 exact (mxK_le (mxK_nn _ _)).1 (Int.le_refl _) k hk
section
variable {ms : List Mach} {ns : List NeedS}
theorem plB_in {pl : List Int} {k r : Nat} (h : r < pl.length) : plB pl k r = decide (pl.getD r 0 = (k : Int)) := by
 unfold plB; rw [decide_eq_true h, Bool.true_and]
theorem cyc_tim {pl : List Int} {k : Nat} : ∀ r, r ≤ pl.length → cyc ms ns pl k r = timB (ms.getD k default) ns (plB pl k) r
 | 0, _ => rfl
 | r + 1, h => by
  rw [cyc, timB, cyc_tim r (by omega), plB_in (by omega)]
  by_cases e : pl.getD r 0 = (k : Int)
  ·rw [if_pos e, if_pos (decide_eq_true e)]
  ·rw [if_neg e, if_neg (by rw [decide_eq_false e]; simp)]
theorem cnt_num {pl : List Int} {k : Nat} : ∀ r, r ≤ pl.length → cnt pl k r = (numB (plB pl k) r : Int)
 | 0, _ => rfl
 | r + 1, h => by
  rw [cnt, numB, cnt_num r (by omega), plB_in (by omega)]
  by_cases e : pl.getD r 0 = (k : Int)
  ·rw [if_pos e, if_pos (decide_eq_true e)]; rfl
  ·rw [if_neg e, if_neg (by rw [decide_eq_false e]; simp)]; rfl
theorem numB_mono (b : Nat → Bool) {r : Nat} : ∀ {t : Nat}, r ≤ t → numB b r ≤ numB b t
 | 0, h => by rw [show r = 0 by omega]; exact Nat.le_refl _
 | t + 1, h => by
  by_cases e : r = t + 1
  ·rw [e]; exact Nat.le_refl _
  ·have := numB_mono b (t := t) (r := r) (by omega)
   rw [numB]; omega
def InP (ms : List Mach) (pl : List Int) : Prop := ∀ i, i < pl.length → ∃ k : Nat, pl.getD i 0 = (k : Int) ∧ k < ms.length
structure VPlan (ms : List Mach) (ns : List NeedS) (pl : List Int) : Prop where
 len : pl.length = ns.length
 inp : InP ms pl
 ok : okP ms ns pl
theorem planF_valid (hm : machF ms = 0) {pl : List Int} : planF ms ns pl = 0 ↔ VPlan ms ns pl := by
 constructor
 ·intro h
  obtain ⟨hl, hE⟩ := planF_zero h
  refine ⟨hl, fun i hi => planE_ok (hE i hi), fun k hk => okB_iff.2 fun i hi => ?_⟩
  have hover : cnt pl k pl.length ≤ (ms.getD k default).feeders := by
   rw [planF, if_neg (by omega), firstE_none hE, if_neg (by decide)] at h
   have := firstE_zero h k hk
   unfold overE at this
   split at this
   ·cases this
   ·omega
  unfold okA
  rw [plB_in (by omega)]
  by_cases e : pl.getD i 0 = (k : Int)
  ·have hE' := hE i (by omega)
   unfold planE at hE'
   split at hE'
   ·cases hE'
   ·split at hE'
    ·cases hE'
    ·rename_i h1 h2
     rw [e, Int.toNat_natCast] at h2
     have h3 := numB_mono (plB pl k) (show i + 1 ≤ pl.length by omega)
     rw [cnt_num pl.length (Nat.le_refl _)] at hover
     have h4 : hasK (ms.getD k default) (ns.getD i default).key = true := by simpa using h2
     have h5 : decide (((numB (plB pl k) (i + 1) : Nat) : Int) ≤ (ms.getD k default).feeders) = true := decide_eq_true (by omega)
     rw [h4, h5]; cases decide (pl.getD i 0 = (k : Int)) <;> rfl
  ·rw [decide_eq_false e]; rfl
 ·rintro ⟨hl, hi, hok⟩
  refine planF_0 hl (fun j hj => ?_) fun k hk => ?_
  ·obtain ⟨k, e, hk⟩ := hi j hj
   refine planE_0 (by omega) ?_
   rw [e, Int.toNat_natCast]
   have := okB_iff.1 (hok k hk) j (by omega)
   unfold okA at this
   rw [plB_in hj, decide_eq_true e] at this
   simp [-List.getD_eq_getElem?_getD] at this
   exact this.1
  ·rw [cnt_num _ (Nat.le_refl _)]
   have hf := (machF_each hm hk).1.2.2.1
   have key : ∀ r, r ≤ ns.length → (numB (plB pl k) r : Int) ≤ (ms.getD k default).feeders := by
    intro r
    induction r with
    | zero => intro _; exact hf
    | succ r ih =>
     intro hr
     have := okB_iff.1 (hok k hk) r (by omega)
     unfold okA at this
     cases hb : plB pl k r with
     | true =>
      rw [hb] at this
      simp [-List.getD_eq_getElem?_getD] at this
      exact this.2
     | false => rw [numB, hb]; have := ih (by omega); simp [-List.getD_eq_getElem?_getD]; exact this
   exact key _ (by omega)
theorem MnOk.mk' (hm : machF ms = 0) (hn : needsF ns 1 1000 = 0) : MnOk ms ns := by
 refine ⟨fun k => ?_, fun k => ?_, fun i => ?_, needsF_len hn⟩
 ·by_cases hk : k < ms.length
  ·exact (machF_each hm hk).1.2.1
  ·rw [List.getD_eq_getElem?_getD, List.getElem?_eq_none (by omega)]; exact ⟨Int.le_refl _, by decide⟩
 ·by_cases hk : k < ms.length
  ·exact (machF_each hm hk).1.1
  ·rw [List.getD_eq_getElem?_getD, List.getElem?_eq_none (by omega)]; exact ⟨Int.le_refl _, by decide⟩
 ·by_cases hi : i < ns.length
  ·have := needsF_count hn hi; omega
  ·rw [List.getD_eq_getElem?_getD, List.getElem?_eq_none (by omega)]; exact ⟨Int.le_refl _, by decide⟩
theorem snoc_in {pl : List Int} (h : InP ms pl) {c : Nat} (hc : c < ms.length) : InP ms (pl ++ [(c : Int)]) := fun i hi => by
 by_cases e : i < pl.length
 ·rw [List.getD_eq_getElem?_getD, List.getElem?_append_left e, ← List.getD_eq_getElem?_getD]; exact h i e
 ·have : i = pl.length := by simp at hi; omega
  subst this
  exact ⟨c, by simp, hc⟩
theorem grd_spec (hM : MnOk ms ns) : ∀ (d : Nat) (pl : List Int), pl.length + d = ns.length → bstV ms ns d pl < neverC → InP ms pl → (grd ms ns d pl).length = ns.length ∧ InP ms (grd ms ns d pl) ∧ mxC ms ns (grd ms ns d pl) = bstV ms ns d pl
 | 0, pl, hl, _, hi => ⟨by rw [grd]; omega, hi, rfl⟩
 | d + 1, pl, hl, hv, hi => by
  rw [bstV] at hv
  obtain ⟨k, hk, e⟩ := mnK_at hv
  obtain ⟨s1, s2, s3⟩ := fsK_spec (fun k : Nat => bstV ms ns d (pl ++ [(k : Int)])) (bstV ms ns (d + 1) pl) ms.length
  have hlt : fsK (fun k : Nat => bstV ms ns d (pl ++ [(k : Int)])) (bstV ms ns (d + 1) pl) ms.length < ms.length := Classical.byContradiction fun hn => s2 k (by omega) e
  have e2 := s3 hlt
  have ih := grd_spec hM d (pl ++ [((fsK (fun k : Nat => bstV ms ns d (pl ++ [(k : Int)])) (bstV ms ns (d + 1) pl) ms.length : Nat) : Int)]) (by simp; omega) (by rw [e2]; exact hv) (snoc_in hi hlt)
  rw [grd]
  exact ⟨ih.1, ih.2.1, ih.2.2.trans e2⟩
theorem grd_ok (hM : MnOk ms ns) (h : bstV ms ns ns.length [] < neverC) : VPlan ms ns (grd ms ns ns.length []) ∧ mxT ms ns (grd ms ns ns.length []) = bstV ms ns ns.length [] := by
 obtain ⟨h1, h2, h3⟩ := grd_spec hM ns.length [] (by simp) h (fun i hi => absurd hi (Nat.not_lt_zero i))
 have hok : okP ms ns (grd ms ns ns.length []) := fun k hk => by
  have hc : cycB (ms.getD k default) ns (plB (grd ms ns ns.length []) k) ≤ mxC ms ns (grd ms ns ns.length []) := (mxK_le (mxK_nn _ _)).1 (Int.le_refl _) k hk
  unfold cycB at hc
  split at hc
  ·assumption
  ·omega
 exact ⟨⟨h1, h2, hok⟩, by rw [← mxC_ok hok]; exact h3⟩
def smN (f : Nat → Int) : Nat → Int
 | 0 => 0
 | k + 1 => smN f k + f k
def lstE (ms : List Mach) (key : ByteArray) : Nat → Int
 | 0 => -1
 | k + 1 => if hasK (ms.getD k default) key = true ∧ (lstE ms key k < 0 ∨ (ms.getD k default).each < lstE ms key k) then (ms.getD k default).each else lstE ms key k
def bndS (ms : List Mach) (ns : List NeedS) : Nat → Int
 | 0 => smN (fun k => (ms.getD k default).fixed) ms.length
 | r + 1 => bndS ms ns r + max (lstE ms (ns.getD r default).key ms.length) 0 * (ns.getD r default).count
def bndF (ms : List Mach) (ns : List NeedS) : Int := max (mxK (fun k => (ms.getD k default).fixed) ms.length) (Int.tdiv (bndS ms ns ns.length + ms.length - 1) ms.length)
theorem lstE_each (hM : MnOk ms ns) {key : ByteArray} : ∀ K, -1 ≤ lstE ms key K ∧ lstE ms key K ≤ 10000000
 | 0 => ⟨Int.le_refl _, by simp [lstE]⟩
 | K + 1 => by
  have := lstE_each hM (key := key) K
  have := hM.each K
  rw [lstE]; split <;> omega
theorem smN_fix (hM : MnOk ms ns) : ∀ K, 0 ≤ smN (fun k => (ms.getD k default).fixed) K ∧ smN (fun k => (ms.getD k default).fixed) K ≤ 10000000 * K
 | 0 => by simp [smN]
 | K + 1 => by have := smN_fix hM K; have := hM.fix K; rw [smN]; omega
theorem bndS_in (hM : MnOk ms ns) : ∀ r, 0 ≤ bndS ms ns r ∧ bndS ms ns r ≤ 10000000 * ms.length + 10000000000 * r
 | 0 => by have := smN_fix hM ms.length; rw [bndS]; omega
 | r + 1 => by
  have ih := bndS_in hM r
  have h1 := lstE_each hM (key := (ns.getD r default).key) ms.length
  have h2 := mul_in2 (a := max (lstE ms (ns.getD r default).key ms.length) 0) (by omega) (hM.cnt r)
  rw [bndS]; omega
theorem mxK_fix (hM : MnOk ms ns) (K : Nat) : 0 ≤ mxK (fun k => (ms.getD k default).fixed) K ∧ mxK (fun k => (ms.getD k default).fixed) K ≤ 10000000 := ⟨mxK_nn _ _, mxK_up (by decide) fun k _ => (hM.fix k).2⟩
def nobL (ms : List Mach) (ns : List NeedS) : List ByteArray := (ns.filter fun y => !(ms.any fun m => hasK m y.key)).map (·.key)
theorem nobL_take {q : Nat} (h : q < ns.length) : nobL ms (ns.take (q + 1)) = nobL ms (ns.take q) ++ if (ms.any fun m => hasK m (ns.getD q default).key) = true then [] else [(ns.getD q default).key] := by
 rw [take_snocD h default]
 unfold nobL
 rw [List.filter_append, List.map_append]
 congr 1
 split
 ·rename_i h2; rw [List.filter_cons_of_neg (by rw [h2]; simp)]; rfl
 ·rename_i h2; rw [List.filter_cons_of_pos (by simpa using h2)]; rfl
theorem nobL_len : (nobL ms ns).length ≤ ns.length := by
 unfold nobL; rw [List.length_map]; exact List.length_filter_le _ _
def pckF (f : Nat → Int) (ok : Nat → Bool) : Nat → Int
 | 0 => -1
 | k + 1 => if ok k = true ∧ (pckF f ok k < 0 ∨ f k < f (pckF f ok k).toNat) then (k : Int) else pckF f ok k
theorem pckF_in (f : Nat → Int) (ok : Nat → Bool) : ∀ K, pckF f ok K = -1 ∨ ∃ k : Nat, pckF f ok K = (k : Int) ∧ k < K ∧ ok k = true
 | 0 => .inl rfl
 | K + 1 => by
  rw [pckF]
  split
  ·rename_i h; exact .inr ⟨K, rfl, by omega, h.1⟩
  ·rcases pckF_in f ok K with h | ⟨k, h1, h2, h3⟩
   ·exact .inl h
   ·exact .inr ⟨k, h1, by omega, h3⟩
def fstC (ms : List Mach) (ns : List NeedS) (g : List Int) (i k : Nat) : Int := cyc ms ns g k g.length + (ms.getD k default).each * (ns.getD i default).count
def fstO (ms : List Mach) (ns : List NeedS) (g : List Int) (i k : Nat) : Bool := hasK (ms.getD k default) (ns.getD i default).key && decide (cnt g k g.length < (ms.getD k default).feeders)
def fstB (ms : List Mach) (ns : List NeedS) (g : List Int) (i : Nat) : Int := pckF (fstC ms ns g i) (fstO ms ns g i) ms.length
def fstG (ms : List Mach) (ns : List NeedS) : List Int → List Int → Option (List Int)
 | [], g => some g
 | i :: r, g => if fstB ms ns g i.toNat < 0 then none else fstG ms ns r (g.set i.toNat (fstB ms ns g i.toNat))
theorem fstG_step {l g : List Int} {q : Nat} (h : q < l.length) : fstG ms ns (l.drop q) g = if fstB ms ns g (l.getD q 0).toNat < 0 then none else fstG ms ns (l.drop (q + 1)) (g.set (l.getD q 0).toNat (fstB ms ns g (l.getD q 0).toNat)) := by
 rw [List.drop_eq_getElem_cons h, fstG, List.getD_eq_getElem?_getD, List.getElem?_eq_getElem h]; rfl
theorem fstG_end {l g : List Int} {q : Nat} (h : l.length ≤ q) : fstG ms ns (l.drop q) g = some g := by
 rw [List.drop_eq_nil_of_le h, fstG]
theorem cyc_set {g : List Int} {i k j : Nat} (hi : i < g.length) (h : g.getD i 0 = -1) : ∀ r, cyc ms ns (g.set i (k : Int)) j r = cyc ms ns g j r + if i < r ∧ k = j then (ms.getD j default).each * (ns.getD i default).count else 0
 | 0 => by simp [cyc]
 | r + 1 => by
  rw [cyc, cyc, cyc_set hi h r]
  by_cases e : r = i
  ·subst e
   have e1 : (g.set r (k : Int)).getD r 0 = (k : Int) := by simp [hi]
   rw [e1, h, if_neg (by omega : ¬ ((-1 : Int) = (j : Int))), if_neg (show ¬ (r < r ∧ k = j) by omega)]
   by_cases e2 : k = j
   ·subst e2; rw [if_pos rfl, if_pos ⟨by omega, rfl⟩]; omega
   ·rw [if_neg (by omega), if_neg (by omega)]
  ·have e1 : (g.set i (k : Int)).getD r 0 = g.getD r 0 := by
    rw [List.getD_eq_getElem?_getD, List.getElem?_set_ne (Ne.symm e), ← List.getD_eq_getElem?_getD]
   rw [e1]
   simp only [show (i < r + 1 ∧ k = j) ↔ (i < r ∧ k = j) by omega]
   generalize (if i < r ∧ k = j then (ms.getD j default).each * (ns.getD i default).count else 0) = X
   split <;> omega
theorem cnt_set {g : List Int} {i k j : Nat} (hi : i < g.length) (h : g.getD i 0 = -1) : ∀ r, cnt (g.set i (k : Int)) j r = cnt g j r + if i < r ∧ k = j then 1 else 0
 | 0 => by simp [cnt]
 | r + 1 => by
  rw [cnt, cnt, cnt_set hi h r]
  by_cases e : r = i
  ·subst e
   have e1 : (g.set r (k : Int)).getD r 0 = (k : Int) := by simp [hi]
   rw [e1, h, if_neg (by omega : ¬ ((-1 : Int) = (j : Int))), if_neg (show ¬ (r < r ∧ k = j) by omega)]
   by_cases e2 : k = j
   ·subst e2; rw [if_pos rfl, if_pos ⟨by omega, rfl⟩]
   ·rw [if_neg (by omega), if_neg (by omega)]
  ·have e1 : (g.set i (k : Int)).getD r 0 = g.getD r 0 := by
    rw [List.getD_eq_getElem?_getD, List.getElem?_set_ne (Ne.symm e), ← List.getD_eq_getElem?_getD]
   rw [e1]
   simp only [show (i < r + 1 ∧ k = j) ↔ (i < r ∧ k = j) by omega]
   generalize (if i < r ∧ k = j then (1 : Int) else 0) = X
   omega
structure FstI (ms : List Mach) (ns : List NeedS) (l : List Int) (q : Nat) (g : List Int) : Prop where
 len : g.length = ns.length
 el : ∀ i, i < ns.length → (g.getD i 0 = -1 ∧ (i : Int) ∉ l.take q) ∨ ((i : Int) ∈ l.take q ∧ ∃ k : Nat, g.getD i 0 = (k : Int) ∧ k < ms.length ∧ hasK (ms.getD k default) (ns.getD i default).key = true)
 feed : ∀ k, k < ms.length → cnt g k g.length ≤ (ms.getD k default).feeders
theorem cnt_none (n : Nat) (k : Nat) : ∀ r, r ≤ n → cnt (List.replicate n (-1)) k r = 0
 | 0, _ => rfl
 | r + 1, h => by
  rw [cnt, cnt_none n k r (by omega), show (List.replicate n (-1 : Int)).getD r 0 = -1 by simp [show r < n by omega], if_neg (by omega)]; rfl
theorem cyc_none (n : Nat) (k : Nat) : ∀ r, r ≤ n → cyc ms ns (List.replicate n (-1)) k r = (ms.getD k default).fixed
 | 0, _ => rfl
 | r + 1, h => by
  rw [cyc, cyc_none n k r (by omega), show (List.replicate n (-1 : Int)).getD r 0 = -1 by simp [show r < n by omega], if_neg (by omega)]
theorem FstI.zero (hm : machF ms = 0) (l : List Int) : FstI ms ns l 0 (List.replicate ns.length (-1)) :=
 ⟨by simp, fun i hi => .inl ⟨by simp [hi], by simp⟩, fun k hk => by rw [List.length_replicate, cnt_none _ _ _ (Nat.le_refl _)]; exact (machF_each hm hk).1.2.2.1⟩
theorem fstB_in {g : List Int} {i : Nat} (h : ¬ fstB ms ns g i < 0) : ∃ k : Nat, fstB ms ns g i = (k : Int) ∧ k < ms.length ∧ hasK (ms.getD k default) (ns.getD i default).key = true ∧ cnt g k g.length < (ms.getD k default).feeders := by
 rcases pckF_in (fstC ms ns g i) (fstO ms ns g i) ms.length with e | ⟨k, e, hk, ho⟩
 ·exact absurd (show fstB ms ns g i < 0 by unfold fstB; rw [e]; decide) h
 ·unfold fstO at ho
  rw [Bool.and_eq_true, decide_eq_true_eq] at ho
  exact ⟨k, e, hk, ho.1, ho.2⟩
theorem FstI.none {l g : List Int} {q i : Nat} (h : FstI ms ns l q g) (hd : l.Nodup) (hq : q < l.length) (hi : l.getD q 0 = (i : Int)) (hin : i < ns.length) : g.getD i 0 = -1 := by
 rcases h.el i hin with e | ⟨e, _⟩
 ·exact e.1
 ·exfalso
  obtain ⟨j, hj, e2⟩ := List.getElem_of_mem e
  rw [List.length_take] at hj
  rw [List.getElem_take] at e2
  rw [List.getD_eq_getElem?_getD, List.getElem?_eq_getElem hq] at hi
  have : j = q := (List.getElem_inj hd).1 (e2.trans (by simpa using hi.symm))
  omega
theorem FstI.step {l g : List Int} {q i k : Nat} (h : FstI ms ns l q g) (hd : l.Nodup) (hq : q < l.length) (hi : l.getD q 0 = (i : Int)) (hin : i < ns.length) (hk : k < ms.length) (h1 : hasK (ms.getD k default) (ns.getD i default).key = true) (h2 : cnt g k g.length < (ms.getD k default).feeders) : FstI ms ns l (q + 1) (g.set i (k : Int)) := by
 have hn := h.none hd hq hi hin
 have hil : i < g.length := by rw [h.len]; exact hin
 have htk : l.take (q + 1) = l.take q ++ [(i : Int)] := by rw [take_snocD hq 0, hi]
 refine ⟨by rw [List.length_set]; exact h.len, fun j hj => ?_, fun j hj => ?_⟩
 ·rw [htk]
  by_cases e : j = i
  ·subst e
   exact .inr ⟨by simp, k, by simp [hil], hk, h1⟩
  ·have e1 : (g.set i (k : Int)).getD j 0 = g.getD j 0 := by
    rw [List.getD_eq_getElem?_getD, List.getElem?_set_ne (Ne.symm e), ← List.getD_eq_getElem?_getD]
   rw [e1]
   rcases h.el j hj with h3 | ⟨h3, h4⟩
   ·exact .inl ⟨h3.1, fun hm => (List.mem_append.1 hm).elim h3.2 fun hm => by simp at hm; omega⟩
   ·exact .inr ⟨List.mem_append.2 (.inl h3), h4⟩
 ·rw [List.length_set, cnt_set hil hn]
  have := h.feed j hj
  by_cases e : k = j
  ·subst e; rw [if_pos ⟨hil, rfl⟩]; omega
  ·rw [if_neg (by omega)]; omega
theorem FstI.fin {l g : List Int} {q : Nat} (h : FstI ms ns l q g) (hm : machF ms = 0) (hq : l.length ≤ q) (hp : l.Perm (idO ns.length)) : VPlan ms ns g := by
 have hall : ∀ i, i < ns.length → ∃ k : Nat, g.getD i 0 = (k : Int) ∧ k < ms.length ∧ hasK (ms.getD k default) (ns.getD i default).key = true := fun i hi => by
  rcases h.el i hi with h1 | h1
  ·refine absurd (hp.symm.subset ?_) (by rw [List.take_of_length_le hq] at h1; exact h1.2)
   unfold idO; exact List.mem_map.2 ⟨i, List.mem_range.2 hi, rfl⟩
  ·exact h1.2
 refine (planF_valid hm).1 (planF_0 h.len (fun j hj => ?_) h.feed)
 obtain ⟨k, e, hk, hh⟩ := hall j (by rw [← h.len]; exact hj)
 exact planE_0 (by omega) (by rw [e, Int.toNat_natCast]; exact hh)
def zerG (g : List Int) : List Int := g.map fun x => if x < 0 then 0 else x
theorem zerG_len (g : List Int) : (zerG g).length = g.length := by simp [zerG]
theorem zerG_set {g : List Int} {i k : Nat} : (zerG g).set i (k : Int) = zerG (g.set i (k : Int)) := by
 unfold zerG
 rw [List.map_set, if_neg (by omega)]
theorem zerG_rep (n : Nat) : zerG (List.replicate n (-1)) = List.replicate n 0 := by simp [zerG]
theorem zerG_in {g : List Int} (h : InP ms g) : zerG g = g := by
 unfold zerG
 conv => rhs; rw [← List.map_id g]
 refine List.map_congr_left fun x hx => ?_
 obtain ⟨i, hi, rfl⟩ := List.getElem_of_mem hx
 obtain ⟨k, e, _⟩ := h i hi
 rw [List.getD_eq_getElem?_getD, List.getElem?_eq_getElem hi] at e
 have e' : g[i] = (k : Int) := by simpa using e
 rw [e', if_neg (by omega)]; rfl
def fstO1 (ns : List NeedS) (x y : Int) : Int := cmpI (ns.getD y.toNat default).count (ns.getD x.toNat default).count
def fstL (ns : List NeedS) : List Int := insT (fstO1 ns) (idO ns.length) ((idO ns.length).length - 1)
def fstR (ms : List Mach) (ns : List NeedS) : Option (List Int) := fstG ms ns (fstL ns) (List.replicate ns.length (-1))
theorem fstL_perm (ns : List NeedS) : (fstL ns).Perm (idO ns.length) := insT_perm _ _ _ (by omega)
theorem fstL_ord (ns : List NeedS) : Ord ns.length (fstL ns) := ⟨(fstL_perm ns).nodup_iff.2 (idO_ord _).nd, fun x hx => (idO_ord _).lt x ((fstL_perm ns).subset hx)⟩
theorem fstG_valid (hm : machF ms = 0) : ∀ (d q : Nat) (g r : List Int), (fstL ns).length ≤ q + d → FstI ms ns (fstL ns) q g → fstG ms ns ((fstL ns).drop q) g = some r → VPlan ms ns r
 | 0, q, g, r, hd, hI, he => by
  rw [fstG_end (show (fstL ns).length ≤ q from hd)] at he
  cases he
  exact hI.fin hm hd (fstL_perm ns)
 | d + 1, q, g, r, hd, hI, he => by
  by_cases hq : q < (fstL ns).length
  ·have hx := (fstL_ord ns).lt ((fstL ns).getD q 0) (by rw [List.getD_eq_getElem?_getD, List.getElem?_eq_getElem hq]; exact List.getElem_mem hq)
   rw [fstG_step hq] at he
   split at he
   ·cases he
   ·rename_i h1
    obtain ⟨k, e, hk, h2, h3⟩ := fstB_in h1
    rw [e] at he
    exact fstG_valid hm d (q + 1) _ r (by omega) (hI.step (fstL_ord ns).nd hq (by omega) (by omega) hk h2 h3) he
  ·rw [fstG_end (by omega)] at he
   cases he
   exact hI.fin hm (by omega) (fstL_perm ns)
theorem fstR_valid (hm : machF ms = 0) {r : List Int} (h : fstR ms ns = some r) : VPlan ms ns r := fstG_valid hm (fstL ns).length 0 _ r (by omega) (FstI.zero hm _) (by rw [List.drop_zero]; exact h)
end
end Go.Proofs.YtemnnmohdpabhaaGreatDoor
namespace Go.Proofs.YtemnnmohdpabhaaGreatDoor
open Go.RowKit
set_option linter.unusedVariables false
set_option linter.unusedSimpArgs false
structure SetI (r : Nat) (F : Nat → Int) (l : List Int) : Prop where
 len : l.length = r + 1
 at_ : ∀ s, SubN s r → l.getD s 0 = F s
structure SetG (r cur : Nat) (F : Nat → Int) (l : List Int) : Prop where
 len : l.length = r + 1
 sub : SubN cur r
 at_ : ∀ s, SubN s r → cur < s → l.getD s 0 = F s
section
variable {r cur : Nat} {F : Nat → Int} {l : List Int}
theorem SetG.lt (h : SetG r cur F l) : cur < l.length := by have := h.sub.le; have := h.len; omega
theorem SetG.start (h : l.length = r + 1) : SetG r r F l := ⟨h, SubN.refl r, fun s hs hlt => by have := hs.le; omega⟩
theorem SetG.next {x : Int} (h : SetG r cur F l) (h0 : cur ≠ 0) (hx : x = F cur) : SetG r ((cur - 1) &&& r) F (l.set cur x) :=
  ⟨by rw [List.length_set]; exact h.len, SubN.and_ _ _, fun s hs hlt => by
    rw [getDs h.lt]
    by_cases e : s = cur
    · rw [if_pos e, e, hx]
    · rw [if_neg e]
      refine h.at_ s hs (Classical.byContradiction fun hn => ?_)
      have := sub_next cur s r hs h.sub (by omega)
      omega⟩
theorem SetG.last {x : Int} (h : SetG r cur F l) (h0 : cur = 0) (hx : x = F cur) : SetI r F (l.set cur x) :=
 ⟨by rw [List.length_set]; exact h.len, fun s hs => by
  rw [getDs h.lt]
  by_cases e : s = cur
  ·rw [if_pos e, e, hx]
  ·rw [if_neg e]; exact h.at_ s hs (by omega)⟩
end
structure MinI (F : Nat → Int) (set cur : Nat) (v : Int) : Prop where
 sub : SubN cur set
 lo : 0 ≤ v
 hi : v ≤ neverC
 iff : ∀ x, 0 ≤ x → x < neverC → (v ≤ x ↔ ∃ t, SubN t set ∧ cur < t ∧ F t ≤ x)
section
variable {F : Nat → Int} {set cur : Nat} {v : Int}
theorem MinI.start (F : Nat → Int) (set : Nat) : MinI F set set neverC := ⟨SubN.refl _, by decide, Int.le_refl _, fun x h0 hx => ⟨fun h => by omega, fun ⟨t, h1, h2, _⟩ => by have := h1.le; omega⟩⟩
theorem MinI.next (h : MinI F set cur v) (hF : 0 ≤ F cur) (h0 : cur ≠ 0) : MinI F set ((cur - 1) &&& set) (min v (F cur)) :=
 ⟨SubN.and_ _ _, by have := h.lo; omega, by have := h.hi; omega, fun x hx0 hx => by
  have h1 := h.iff x hx0 hx
  constructor
  ·intro hm
   by_cases e : F cur ≤ x
   ·exact ⟨cur, h.sub, sub_dec h0, e⟩
   ·obtain ⟨t, t1, t2, t3⟩ := h1.1 (by omega)
    exact ⟨t, t1, by have := sub_dec (r := set) h0; omega, t3⟩
  ·rintro ⟨t, t1, t2, t3⟩
   by_cases e : t = cur
   ·subst e; omega
   ·by_cases e2 : cur < t
    ·have := h1.2 ⟨t, t1, e2, t3⟩; omega
    ·have := sub_next cur t set t1 h.sub (by omega); omega⟩
theorem MinI.last (h : MinI F set cur v) (hF : ∀ t, 0 ≤ F t) (h0 : cur = 0) : min v (F cur) = mnS F set := by
 have hl := h.lo
 have hh := h.hi
 have hc := hF cur
 refine eq_of_le (by omega) (mnS_never _ _) (by omega) (mnS_nn hF _) fun x hx0 hx => ?_
 rw [mnS_iff hx]
 have h1 := h.iff x hx0 hx
 constructor
 ·intro hm
  by_cases e : F cur ≤ x
  ·exact ⟨cur, h.sub, e⟩
  ·obtain ⟨t, t1, t2, t3⟩ := h1.1 (by omega)
   exact ⟨t, t1, t3⟩
 ·rintro ⟨t, t1, t3⟩
  by_cases e : t = cur
  ·subst e; omega
  ·have := h1.2 ⟨t, t1, by omega, t3⟩; omega
end
section
variable {ms : List Mach} {ns : List NeedS} {fx : Nat → Nat}
def mxBA (ms : List Mach) (ns : List NeedS) (fx : Nat → Nat) (k set t : Nat) : Int := max (belS ms ns fx k (ndiff set t)) (alnS ms ns fx k t)
theorem alnS_in (h : MnOk ms ns) (k t : Nat) : 0 ≤ alnS ms ns fx k t ∧ alnS ms ns fx k t ≤ neverC := cycB_in h k _
theorem mxBA_nn (h : MnOk ms ns) (k set t : Nat) : 0 ≤ mxBA ms ns fx k set t := by have := (alnS_in (fx := fx) h k t).1; unfold mxBA; omega
theorem SubN.of_sub {t set r : Nat} (h : SubN set r) : SubN (ndiff set t) r := (SubN.diff set t).trans h
theorem okB_no {m : Mach} {b : Nat → Bool} {i : Nat} (hi : i < ns.length) (h : okA m ns b i = false) : cycB m ns b = neverC := by
 unfold cycB
 rw [if_neg]
 intro h2
 rw [okB_iff.1 h2 i hi] at h; cases h
theorem okB_all {m : Mach} {b : Nat → Bool} (h : ∀ i, i < ns.length → okA m ns b i = true) : cycB m ns b = timB m ns b ns.length := by
 unfold cycB; rw [if_pos (okB_iff.2 h)]
end
end Go.Proofs.YtemnnmohdpabhaaGreatDoor
namespace Go.Proofs.YtemnnmohdpabhaaGreatDoor
open Go.RowKit
set_option linter.unusedVariables false
set_option linter.unusedSimpArgs false
section
variable {ms : List Mach} {ns : List NeedS}
theorem timB_snoc (m : Mach) (pl : List Int) (c k : Nat) : ∀ r, timB m ns (plB (pl ++ [(c : Int)]) k) r = timB m ns (plB pl k) r + if pl.length < r ∧ c = k then m.each * (ns.getD pl.length default).count else 0
 | 0 => by simp [timB]
 | r + 1 => by
  rw [timB, timB, timB_snoc m pl c k r, plB_snoc]
  by_cases e : r = pl.length
  ·subst e
   have : plB pl k pl.length = false := by unfold plB; simp
   rw [this]
   by_cases e2 : c = k <;> simp [e2]
  ·have e3 : (plB pl k r || (decide (r = pl.length) && decide (c = k))) = plB pl k r := by rw [decide_eq_false e]; simp
   rw [e3]
   simp only [show (pl.length < r + 1 ∧ c = k) ↔ (pl.length < r ∧ c = k) by omega]
   generalize (if pl.length < r ∧ c = k then m.each * (ns.getD pl.length default).count else 0) = X
   split <;> omega
theorem timB_nil (m : Mach) (k : Nat) : ∀ r, timB m ns (plB [] k) r = m.fixed
 | 0 => rfl
 | r + 1 => by rw [timB, timB_nil m k r, if_neg (by simp [plB])]
theorem numB_nil (k : Nat) : ∀ r, numB (plB [] k) r = 0
 | 0 => rfl
 | r + 1 => by rw [numB, numB_nil k r, if_neg (by simp [plB])]
theorem okB_num {m : Mach} {b : Nat → Bool} (h : okB m ns b = true) (hf : 0 ≤ m.feeders) : ∀ r, r ≤ ns.length → (numB b r : Int) ≤ m.feeders
 | 0, _ => hf
 | r + 1, hr => by
  have := okB_iff.1 h r (by omega)
  unfold okA at this
  cases hb : b r with
  | true =>
   rw [hb] at this
   simp [-List.getD_eq_getElem?_getD] at this
   exact this.2
  | false => rw [numB, hb]; have := okB_num h hf r (by omega); simp [-List.getD_eq_getElem?_getD]; exact this
def nowL (ms : List Mach) (ns : List NeedS) (pl : List Int) : List Int := tabI ms.length fun k => timB (ms.getD k default) ns (plB pl k) ns.length
def manL (ms : List Mach) (ns : List NeedS) (pl : List Int) : List Int := tabI ms.length fun k => (numB (plB pl k) ns.length : Int)
theorem nowL_len (pl : List Int) : (nowL ms ns pl).length = ms.length := tabI_len _ _
theorem manL_len (pl : List Int) : (manL ms ns pl).length = ms.length := tabI_len _ _
theorem nowL_get {pl : List Int} {k : Nat} (h : k < ms.length) : (nowL ms ns pl).getD k 0 = timB (ms.getD k default) ns (plB pl k) ns.length := tabI_get h
theorem manL_get {pl : List Int} {k : Nat} (h : k < ms.length) : (manL ms ns pl).getD k 0 = (numB (plB pl k) ns.length : Int) := tabI_get h
theorem nowL_set {pl : List Int} {k : Nat} (hl : pl.length < ns.length) : (nowL ms ns pl).set k (timB (ms.getD k default) ns (plB pl k) ns.length + (ms.getD k default).each * (ns.getD pl.length default).count) = nowL ms ns (pl ++ [(k : Int)]) :=
 tabI_set' (by rw [timB_snoc, if_pos ⟨hl, rfl⟩]) fun j _ hne => by rw [timB_snoc, if_neg (by omega)]; omega
theorem manL_set {pl : List Int} {k : Nat} (hl : pl.length < ns.length) : (manL ms ns pl).set k ((numB (plB pl k) ns.length : Int) + 1) = manL ms ns (pl ++ [(k : Int)]) :=
 tabI_set' (by rw [numB_snoc, if_pos ⟨hl, rfl⟩]; rfl) fun j _ hne => by rw [numB_snoc, if_neg (by omega)]; rfl
theorem nowL_snoc {pl : List Int} {k : Nat} (hl : pl.length < ns.length) (hk : k < ms.length) : (nowL ms ns (pl ++ [(k : Int)])).getD k 0 = timB (ms.getD k default) ns (plB pl k) ns.length + (ms.getD k default).each * (ns.getD pl.length default).count := by
 rw [nowL_get hk, timB_snoc, if_pos ⟨hl, rfl⟩]
theorem manL_snoc {pl : List Int} {k : Nat} (hl : pl.length < ns.length) (hk : k < ms.length) : (manL ms ns (pl ++ [(k : Int)])).getD k 0 = (numB (plB pl k) ns.length : Int) + 1 := by
 rw [manL_get hk, numB_snoc, if_pos ⟨hl, rfl⟩]; rfl
theorem nowL_back {pl : List Int} {k : Nat} (hl : pl.length < ns.length) : (nowL ms ns (pl ++ [(k : Int)])).set k (timB (ms.getD k default) ns (plB pl k) ns.length) = nowL ms ns pl :=
 tabI_set' rfl fun j _ hne => by rw [timB_snoc, if_neg (by omega)]; omega
theorem manL_back {pl : List Int} {k : Nat} (hl : pl.length < ns.length) : (manL ms ns (pl ++ [(k : Int)])).set k (numB (plB pl k) ns.length : Int) = manL ms ns pl :=
 tabI_set' rfl fun j _ hne => by rw [numB_snoc, if_neg (by omega)]; rfl
theorem nowL_max (hM : MnOk ms ns) (h0 : 0 < ms.length) (pl : List Int) : maxL (nowL ms ns pl) = mxT ms ns pl := maxL_tab h0 fun k => (timB_in hM k _ _).1
theorem nowL_nil : nowL ms ns [] = cycL ms ns [] := tabI_congr fun k _ => by rw [timB_nil]; rfl
theorem manL_nil : manL ms ns [] = List.replicate ms.length 0 := by
 rw [tabI_rep]; exact tabI_congr fun k _ => by rw [numB_nil]; rfl
def dfsK (ms : List Mach) (ns : List NeedS) (d : Nat) (pl : List Int) (a : BalS) (K : Nat) : BalS := (List.range K).foldl (fun a k => if hasK (ms.getD k default) (ns.getD pl.length default).key = true ∧ (numB (plB pl k) pl.length : Int) + 1 ≤ (ms.getD k default).feeders then dfsB ms ns d (pl ++ [(k : Int)]) a else a) a
theorem dfsK_yes {d : Nat} {pl : List Int} {a : BalS} {k : Nat} (h : mayP ms ns pl k) : dfsK ms ns d pl a (k + 1) = dfsB ms ns d (pl ++ [(k : Int)]) (dfsK ms ns d pl a k) := by
 unfold dfsK
 rw [List.range_succ, List.foldl_append]
 simp only [List.foldl_cons, List.foldl_nil]
 unfold mayP at h
 rw [if_pos h]
theorem dfsK_no {d : Nat} {pl : List Int} {a : BalS} {k : Nat} (h : ¬ mayP ms ns pl k) : dfsK ms ns d pl a (k + 1) = dfsK ms ns d pl a k := by
 unfold dfsK
 rw [List.range_succ, List.foldl_append]
 simp only [List.foldl_cons, List.foldl_nil]
 unfold mayP at h
 rw [if_neg h]
theorem dfsB_cut {d : Nat} {pl : List Int} {a : BalS} (h : a.found = true) (h2 : a.least ≤ mxT ms ns pl) : dfsB ms ns d pl a = a := by
 cases d with
 | zero => rw [dfsB, if_pos ⟨h, h2⟩]
 | succ d => rw [dfsB, if_pos ⟨h, h2⟩]
theorem dfsB_zero {pl : List Int} {a : BalS} (h : ¬ (a.found = true ∧ a.least ≤ mxT ms ns pl)) : dfsB ms ns 0 pl a = ⟨pl, mxT ms ns pl, true⟩ := by rw [dfsB, if_neg h]
theorem dfsB_succ {d : Nat} {pl : List Int} {a : BalS} (h : ¬ (a.found = true ∧ a.least ≤ mxT ms ns pl)) : dfsB ms ns (d + 1) pl a = dfsK ms ns d pl a ms.length := by rw [dfsB, if_neg h]; rfl
theorem mayP_iff {pl : List Int} {k : Nat} (hl : pl.length ≤ ns.length) : mayP ms ns pl k ↔ hasK (ms.getD k default) (ns.getD pl.length default).key = true ∧ (numB (plB pl k) ns.length : Int) + 1 ≤ (ms.getD k default).feeders := by
 unfold mayP
 rw [numB_stop pl k ns.length hl]
def balE (ms : List Mach) (ns : List NeedS) : Int := if faultF ms ns ≠ 0 then faultF ms ns else if 12 < ns.length then 2 else 0
def balOk (ms : List Mach) (ns : List NeedS) : Bool := decide (balE ms ns = 0) && decide (bstV ms ns ns.length [] < neverC)
def balL (ms : List Mach) (ns : List NeedS) : List Int := if balOk ms ns = true then grd ms ns ns.length [] else []
def balV (ms : List Mach) (ns : List NeedS) : Int := if balOk ms ns = true then bstV ms ns ns.length [] else 0
theorem okP_nil (hm : machF ms = 0) : okP ms ns [] := fun k hk => okB_iff.2 fun i hi => by unfold okA plB; simp
theorem bal_ref (hM : MnOk ms ns) (hm : machF ms = 0) : dfsB ms ns ns.length [] ⟨[], 0, false⟩ = if bstV ms ns ns.length [] < neverC then ⟨grd ms ns ns.length [], bstV ms ns ns.length [], true⟩ else ⟨[], 0, false⟩ := by
 rw [dfsB_eq hM ns.length [] ⟨[], 0, false⟩ (by simp) (okP_nil hm) (by decide)]
 rfl
theorem grd_next {pl : List Int} {d k : Nat} (hk : k < ms.length) (h : bstV ms ns d (pl ++ [(k : Int)]) = bstV ms ns (d + 1) pl) (hn : ∀ j, j < k → bstV ms ns d (pl ++ [(j : Int)]) ≠ bstV ms ns (d + 1) pl) : grd ms ns (d + 1) pl = grd ms ns d (pl ++ [(k : Int)]) := by
 rw [grd, fsK_eq hk h hn]
theorem grd_some {pl : List Int} {d : Nat} (h : bstV ms ns (d + 1) pl < neverC) (hn : ∀ j, j < ms.length → bstV ms ns d (pl ++ [(j : Int)]) ≠ bstV ms ns (d + 1) pl) : False := by
 obtain ⟨k, hk, e⟩ := mnK_at (F := fun k => bstV ms ns d (pl ++ [(k : Int)])) (K := ms.length) h
 exact hn k hk e
end
end Go.Proofs.YtemnnmohdpabhaaGreatDoor
namespace Go.Proofs.YtemnnmohdpabhaaGreatDoor
open Go.RowKit
set_option linter.unusedVariables false
set_option linter.unusedSimpArgs false
theorem ofInt64 (a : Nat) (ha : a < 9223372036854775808) : (BitVec.ofInt 64 (a : Int)).toNat = a := by
 rw [BitVec.ofInt_natCast, BitVec.toNat_ofNat]; exact Nat.mod_eq_of_lt (by omega)
theorem wrap64 (a : Nat) (ha : a < 9223372036854775808) : IntKind.i64.wrap (a : Int) = (a : Int) := IntWalk.i64_in _ (by omega)
theorem i64_and (a b : Nat) (ha : a < 9223372036854775808) (hb : b < 9223372036854775808) : Op.intBits .and .i64 (a : Int) (b : Int) = pure (.int .i64 ((a &&& b : Nat) : Int)) := by
 have hx : a &&& b < 2 ^ 63 := Nat.and_lt_two_pow _ (by omega)
 show pure (Value.int .i64 (IntKind.i64.wrap ((BitVec.ofInt 64 (a : Int) &&& BitVec.ofInt 64 (b : Int)).toNat : Int))) = _
 rw [BitVec.toNat_and, ofInt64 a ha, ofInt64 b hb, wrap64 _ (by omega)]
theorem i64_or (a b : Nat) (ha : a < 9223372036854775808) (hb : b < 9223372036854775808) : Op.intBits .or .i64 (a : Int) (b : Int) = pure (.int .i64 ((a ||| b : Nat) : Int)) := by
 have hx : a ||| b < 2 ^ 63 := Nat.or_lt_two_pow (by omega) (by omega)
 show pure (Value.int .i64 (IntKind.i64.wrap ((BitVec.ofInt 64 (a : Int) ||| BitVec.ofInt 64 (b : Int)).toNat : Int))) = _
 rw [BitVec.toNat_or, ofInt64 a ha, ofInt64 b hb, wrap64 _ (by omega)]
theorem i64_andNot (a b : Nat) (ha : a < 9223372036854775808) (hb : b < 9223372036854775808) : Op.intBits .andNot .i64 (a : Int) (b : Int) = pure (.int .i64 ((ndiff a b : Nat) : Int)) := by
 have hx : ndiff a b < 2 ^ 63 := Nat.xor_lt_two_pow (by omega) (Nat.lt_of_le_of_lt Nat.and_le_left (by omega))
 have e : (BitVec.ofInt 64 (a : Int) &&& ~~~BitVec.ofInt 64 (b : Int)).toNat = ndiff a b := by
  refine Nat.eq_of_testBit_eq fun i => ?_
  rw [ndiff_bit, BitVec.toNat_and, Nat.testBit_and, ofInt64 a ha, BitVec.testBit_toNat, BitVec.getLsbD_not, ← BitVec.testBit_toNat, ofInt64 b hb]
  cases h : a.testBit i with
  | false => rfl
  | true =>
   have hi : i < 64 := by
    refine Classical.byContradiction fun hn => ?_
    have := Nat.testBit_lt_two_pow (x := a) (i := i) (Nat.lt_of_lt_of_le (show a < 2 ^ 63 by omega) (Nat.pow_le_pow_right (by decide) (by omega)))
    rw [this] at h; cases h
   simp [hi]
 show pure (Value.int .i64 (IntKind.i64.wrap ((BitVec.ofInt 64 (a : Int) &&& ~~~BitVec.ofInt 64 (b : Int)).toNat : Int))) = _
 rw [e, wrap64 _ (by omega)]
section
variable {P : Program} {B : Bs} {W : Nat → Prop} {s : St'} {o : Oper} {t u : TypeId} {x y : Operand} {a b : Nat}
theorem OpV.band (ho : o.op = .binOp .and t x y u) (hx : evO s x = some (.v (.int .i64 (a : Int)))) (hy : evO s y = some (.v (.int .i64 (b : Int)))) (ha : a < 9223372036854775808) (hb : b < 9223372036854775808) : OpV P B W s o (avI ((a &&& b : Nat) : Int)) :=
 OpV.conc (fun a' w hr w' hcw => by simp [execOp, ho, hr.evv hx, hr.evv hy, eqGuard, binOp, i64_and a b ha hb])
theorem OpV.bor (ho : o.op = .binOp .or t x y u) (hx : evO s x = some (.v (.int .i64 (a : Int)))) (hy : evO s y = some (.v (.int .i64 (b : Int)))) (ha : a < 9223372036854775808) (hb : b < 9223372036854775808) : OpV P B W s o (avI ((a ||| b : Nat) : Int)) :=
 OpV.conc (fun a' w hr w' hcw => by simp [execOp, ho, hr.evv hx, hr.evv hy, eqGuard, binOp, i64_or a b ha hb])
theorem OpV.bdiff (ho : o.op = .binOp .andNot t x y u) (hx : evO s x = some (.v (.int .i64 (a : Int)))) (hy : evO s y = some (.v (.int .i64 (b : Int)))) (ha : a < 9223372036854775808) (hb : b < 9223372036854775808) : OpV P B W s o (avI ((ndiff a b : Nat) : Int)) :=
 OpV.conc (fun a' w hr w' hcw => by simp [execOp, ho, hr.evv hx, hr.evv hy, eqGuard, binOp, i64_andNot a b ha hb])
theorem OpV.bshl1 {k : IntKind} (ho : o.op = .binOp .shl t x y u) (hx : evO s x = some (.v (.int .i64 1))) (hy : evO s y = some (.v (.int k (b : Int)))) (hb : b ≤ 62) : OpV P B W s o (avI ((2 ^ b : Nat) : Int)) :=
 OpV.conc (fun a' w hr w' hcw => by
  have h1 : (2 : Nat) ^ b ≤ 2 ^ 62 := Nat.pow_le_pow_right (by decide) hb
  have e : IntKind.i64.wrap (1 * 2 ^ (min ((b : Int).toNat) IntKind.i64.bits)) = ((2 ^ b : Nat) : Int) := by
   rw [show min ((b : Int).toNat) IntKind.i64.bits = b from Nat.min_eq_left (by show b ≤ 64; omega), Int.one_mul, show ((2 : Int) ^ b) = ((2 ^ b : Nat) : Int) by simp]
   exact wrap64 _ (by omega)
  have h0 : ¬ ((b : Int) < 0) := by omega
  simp only [execOp, ho, hr.evv hx, hr.evv hy, eqGuard, binOp, Op.shift, if_neg h0, e]
  simp)
theorem OpV.bshr {k : IntKind} (ho : o.op = .binOp .shr t x y u) (hx : evO s x = some (.v (.int .i64 (a : Int)))) (hy : evO s y = some (.v (.int k (b : Int)))) (hb : b ≤ 62) : OpV P B W s o (avI ((a / 2 ^ b : Nat) : Int)) :=
 OpV.conc (fun a' w hr w' hcw => by
  have e : (a : Int).fdiv (2 ^ (min ((b : Int).toNat) IntKind.i64.bits)) = ((a / 2 ^ b : Nat) : Int) := by
   rw [show min ((b : Int).toNat) IntKind.i64.bits = b from Nat.min_eq_left (by show b ≤ 64; omega), Int.fdiv_eq_ediv_of_nonneg _ (Int.pow_nonneg (by decide)), show ((2 : Int) ^ b) = ((2 ^ b : Nat) : Int) by simp, Int.natCast_ediv]
  have h0 : ¬ ((b : Int) < 0) := by omega
  simp only [execOp, ho, hr.evv hx, hr.evv hy, eqGuard, binOp, Op.shift, if_neg h0, e]
  simp)
end
end Go.Proofs.YtemnnmohdpabhaaGreatDoor
namespace Go.Proofs.YtemnnmohdpabhaaGreatDoor
open Go.RowKit
set_option linter.unusedVariables false
set_option linter.unusedSimpArgs false

set_option maxRecDepth 100000 in
theorem slices_Index_str {xs : List ByteArray} {v : ByteArray} (hl : xs.length ≤ 1000000000) :
  SpecN Tryz.prog 164 [avStrs xs, avS v] (fun y => y = avI (fidx (fun x => sEq v x) xs)) := by
 refine SpecN.of_VCN Tryz.func164 rfl Tryz.ntmps164 (Nle rfl) fun w A hB => ?_
 have hnew : True := trivial
 refine VC.sr ?_
 refine VO.ma rfl rfl rfl rfl ?_
 refine VO.nil ?_
 refine VC.seq ?_
 refine VC.sr ?_
 refine VO.mv rfl rfl rfl rfl ?_
 refine VO.val rfl rfl (OpV.len_im rfl Tryz.underlying40 rfl) ?_
 refine VO.mv rfl rfl rfl rfl ?_
 refine VO.nil ?_
 refine VC.block ?_
 refine VC.loopK [] trivial ({q : Nat // q ≤ xs.length ∧ ∀ j, j < q → sEq v (xs.getD j ByteArray.empty) = false}) (fun (iZ : {q : Nat // q ≤ xs.length ∧ ∀ j, j < q → sEq v (xs.getD j ByteArray.empty) = false}) => match iZ with | ⟨q, hq, hn⟩ => [(0, avStrs xs), (1, avS v), (6, avStrs xs), (7, avI xs.length), (8, avI (q : Int))]) (fun (iZ : {q : Nat // q ≤ xs.length ∧ ∀ j, j < q → sEq v (xs.getD j ByteArray.empty) = false}) => match iZ with | ⟨q, hq, hn⟩ => []) (fun (iZ : {q : Nat // q ≤ xs.length ∧ ∀ j, j < q → sEq v (xs.getD j ByteArray.empty) = false}) => match iZ with | ⟨q, hq, hn⟩ => 0) (fun (iZ : {q : Nat // q ≤ xs.length ∧ ∀ j, j < q → sEq v (xs.getD j ByteArray.empty) = false}) => match iZ with | ⟨q, hq, hn⟩ => xs.length - q) ⟨0, Nat.zero_le _, fun j hj => absurd hj (Nat.not_lt_zero j)⟩ (Le.mk hB [] ⟨rfl, rfl, rfl, rfl, rfl, trivial⟩ rfl rfl (Nat.le_refl _)) ?_
 rintro ⟨q, hq, hn⟩
 show VC _ _ _ _ ⟨[(0, avStrs xs), (1, avS v), (6, avStrs xs), (7, avI xs.length), (8, avI (q : Int))] ++ [], [], 0⟩
 refine VC.sr ?_
 refine VO.val rfl rfl (OpV.lss rfl rfl rfl) ?_
 refine VO.nil ?_
 refine VC.seq ?_
 refine VC.cond rfl (fun aH1b => ?_) (fun aH1b => ?_)
 ·have aH1 := aH1b
  try simp only [qqT, qqF, qqN, qqM, qqL, qqE] at aH1
  refine VC.skip ?_
  refine VC.seq ?_
  refine VC.block ?_
  refine VC.sr ?_
  refine VO.mv rfl rfl rfl rfl ?_
  refine VO.ma rfl rfl rfl rfl ?_
  refine VO.nil ?_
  refine VC.sr ?_
  refine VO.mv rfl rfl rfl rfl ?_
  refine VO.mv rfl rfl rfl rfl ?_
  refine VO.mv rfl rfl rfl rfl ?_
  refine VO.val rfl rfl (OpV.indexAddr_1 rfl Tryz.underlying40 Tryz.sizeOf9 rfl rfl rfl (by omega)) ?_
  refine VO.val rfl rfl (OpV.load_at rfl hB OutW.no Tryz.isAgg9 rfl rfl) ?_
  refine VO.val rfl rfl (OpV.seql rfl rfl rfl) ?_
  refine VO.nil ?_
  refine VC.cond rfl (fun aH2b => ?_) (fun aH2b => ?_)
  ·have aH2 := aH2b
   try simp only [qqT, qqF, qqN, qqM, qqL, qqE] at aH2
   refine VC.sr ?_
   refine VO.mv rfl rfl rfl rfl ?_
   refine VO.ma rfl rfl rfl rfl ?_
   refine VO.nil ?_
   refine VC.ret ?_
   exact Exists.intro _ (And.intro (RetN.one Tryz.results164 (ResN.v rfl)) (by first | (rw [fidx_found (d := ByteArray.empty) (q := q) (by omega) hn (by assumption)]) | (rw [fidx_none (d := ByteArray.empty) (fun j hj => hn j (by omega))])))
  ·have aH2 := aH2b
   try simp only [qqT, qqF, qqN, qqM, qqL, qqE] at aH2
   refine VC.skip ?_
   refine VC.region ?_
   refine VO.val rfl rfl (OpV.add rfl rfl rfl (by unfold fits; omega)) ?_
   refine VO.mv rfl rfl rfl rfl ?_
   refine VO.nil ?_
   exact Exists.intro (⟨q + 1, by omega, lt_succ_cases hn (by assumption)⟩) (And.intro (Le.mk hB [] ⟨rfl, rfl, rfl, rfl, rfl, trivial⟩ rfl rfl (Nat.le_refl _)) (by first | omega | (show _ < _; omega) | (simp only []; omega)))
 ·have aH1 := aH1b
  try simp only [qqT, qqF, qqN, qqM, qqL, qqE] at aH1
  refine VC.exit ?_
  refine VC.sr ?_
  refine VO.ma rfl rfl rfl rfl ?_
  refine VO.nil ?_
  refine VC.ret ?_
  exact Exists.intro _ (And.intro (RetN.one Tryz.results164 (ResN.v rfl)) (by first | (rw [fidx_found (d := ByteArray.empty) (q := q) (by omega) hn (by assumption)]) | (rw [fidx_none (d := ByteArray.empty) (fun j hj => hn j (by omega))])))
set_option maxRecDepth 100000 in
theorem slices_Contains_str {xs : List ByteArray} {v : ByteArray} (hl : xs.length ≤ 1000000000) :
  SpecN Tryz.prog 67 [avStrs xs, avS v] (fun y => y = avB (xs.any fun x => sEq v x)) := by
 refine SpecN.of_VCN Tryz.func67 rfl Tryz.ntmps67 (Nle rfl) fun w A hB => ?_
 have hnew : True := trivial
 refine VC.sr ?_
 refine VO.ma rfl rfl rfl rfl ?_
 refine VO.nil ?_
 refine VC.sr ?_
 refine VO.mv rfl rfl rfl rfl ?_
 refine VO.mv rfl rfl rfl rfl ?_
 refine VO.op rfl (OpE.call rfl hB rfl Tryz.call164 rfl (SpecN.spec ((slices_Index_str (by omega)))) ?_)
 rintro _ rfl
 refine VO.val rfl rfl (OpV.geq rfl rfl rfl) ?_
 refine VO.ma rfl rfl rfl rfl ?_
 refine VO.nil ?_
 refine VC.ret ?_
 exact Exists.intro _ (And.intro (RetN.one Tryz.results67 (ResN.v rfl)) (by rw [← fidx_any]))

set_option maxRecDepth 100000 in
theorem slices_Max_int {xs : List Int} (hl : xs.length ≤ 1000000000) (h0 : 0 < xs.length) :
  SpecN Tryz.prog 93 [avInts xs] (fun y => y = avI (maxL xs)) := by
 refine SpecN.of_VCN Tryz.func93 rfl Tryz.ntmps93 (Nle rfl) fun w A hB => ?_
 have hnew : True := trivial
 refine VC.sr ?_
 refine VO.ma rfl rfl rfl rfl ?_
 refine VO.nil ?_
 refine VC.seq ?_
 refine VC.sr ?_
 refine VO.mv rfl rfl rfl rfl ?_
 refine VO.val rfl rfl (OpV.len_im rfl Tryz.underlying22 rfl) ?_
 refine VO.val rfl rfl (OpV.lss rfl rfl rfl) ?_
 refine VO.nil ?_
 refine VC.cond rfl (fun aH1b => ?_) (fun aH1b => ?_)
 ·have aH1 := aH1b
  try simp only [qqT, qqF, qqN, qqM, qqL, qqE] at aH1
  exact VC.absurd (by omega)
 ·have aH1 := aH1b
  try simp only [qqT, qqF, qqN, qqM, qqL, qqE] at aH1
  refine VC.skip ?_
  refine VC.sr ?_
  refine VO.mv rfl rfl rfl rfl ?_
  refine VO.val rfl rfl (OpV.indexAddr_1 rfl Tryz.underlying22 Tryz.sizeOf3 rfl rfl rfl (by omega)) ?_
  refine VO.val rfl rfl (OpV.load_at rfl hB OutW.no Tryz.isAgg3 rfl rfl) ?_
  refine VO.ma rfl rfl rfl rfl ?_
  refine VO.nil ?_
  refine VC.seq ?_
  refine VC.sr ?_
  refine VO.ma rfl rfl rfl rfl ?_
  refine VO.nil ?_
  refine VC.block ?_
  refine VC.loopK [] trivial ({q : Nat // q ≤ xs.length ∧ 0 < q}) (fun (iZ : {q : Nat // q ≤ xs.length ∧ 0 < q}) => match iZ with | ⟨q, hq, hn⟩ => [(0, avInts xs), (3, avI (maxL (xs.take q))), (4, avI (q : Int))]) (fun (iZ : {q : Nat // q ≤ xs.length ∧ 0 < q}) => match iZ with | ⟨q, hq, hn⟩ => []) (fun (iZ : {q : Nat // q ≤ xs.length ∧ 0 < q}) => match iZ with | ⟨q, hq, hn⟩ => 0) (fun (iZ : {q : Nat // q ≤ xs.length ∧ 0 < q}) => match iZ with | ⟨q, hq, hn⟩ => xs.length - q) ⟨1, h0, Nat.one_pos⟩ (Le.mk hB [] ⟨rfl, (by cases xs with | nil => simp at h0 | cons x r => rfl), rfl, trivial⟩ rfl rfl (Nat.le_refl _)) ?_
  rintro ⟨q, hq, hn⟩
  show VC _ _ _ _ ⟨[(0, avInts xs), (3, avI (maxL (xs.take q))), (4, avI (q : Int))] ++ [], [], 0⟩
  refine VC.seq ?_
  refine VC.sr ?_
  refine VO.mv rfl rfl rfl rfl ?_
  refine VO.mv rfl rfl rfl rfl ?_
  refine VO.val rfl rfl (OpV.len_im rfl Tryz.underlying22 rfl) ?_
  refine VO.val rfl rfl (OpV.lss rfl rfl rfl) ?_
  refine VO.nil ?_
  refine VC.cond rfl (fun aH2b => ?_) (fun aH2b => ?_)
  ·have aH2 := aH2b
   try simp only [qqT, qqF, qqN, qqM, qqL, qqE] at aH2
   refine VC.skip ?_
   refine VC.seq ?_
   refine VC.block ?_
   refine VC.region ?_
   refine VO.mv rfl rfl rfl rfl ?_
   refine VO.mv rfl rfl rfl rfl ?_
   refine VO.mv rfl rfl rfl rfl ?_
   refine VO.val rfl rfl (OpV.indexAddr_1 rfl Tryz.underlying22 Tryz.sizeOf3 rfl rfl rfl (by omega)) ?_
   refine VO.val rfl rfl (OpV.load_at rfl hB OutW.no Tryz.isAgg3 rfl rfl) ?_
   refine VO.val rfl rfl (OpV.max2 rfl rfl rfl) ?_
   refine VO.ma rfl rfl rfl rfl ?_
   refine VO.nil ?_
   refine VC.region ?_
   refine VO.mv rfl rfl rfl rfl ?_
   refine VO.val rfl rfl (OpV.add rfl rfl rfl (by unfold fits; omega)) ?_
   refine VO.ma rfl rfl rfl rfl ?_
   refine VO.nil ?_
   exact Exists.intro (⟨q + 1, by omega, by omega⟩) (And.intro (Le.mk hB [] ⟨rfl, (by cases xs with | nil => simp at h0 | cons x r => (cases q with | zero => omega | succ q => exact congrArg (fun z => some (avI z)) (maxF_take x r (q := q) (by simpa using (by omega : q + 1 < (x :: r).length))))), rfl, trivial⟩ rfl rfl (Nat.le_refl _)) (by first | omega | (show _ < _; omega) | (simp only []; omega)))
  ·have aH2 := aH2b
   try simp only [qqT, qqF, qqN, qqM, qqL, qqE] at aH2
   refine VC.exit ?_
   refine VC.sr ?_
   refine VO.mv rfl rfl rfl rfl ?_
   refine VO.ma rfl rfl rfl rfl ?_
   refine VO.nil ?_
   refine VC.ret ?_
   exact Exists.intro _ (And.intro (RetN.one Tryz.results93 (ResN.v rfl)) (by rw [List.take_of_length_le (by omega)]))
set_option maxRecDepth 100000 in
theorem slices_Equal_int {xs ys : List Int} (hl : xs.length ≤ 1000000000) (hl' : ys.length ≤ 1000000000) :
  SpecN Tryz.prog 23 [avInts xs, avInts ys] (fun y => y = avB (decide (xs = ys))) := by
 refine SpecN.of_VCN Tryz.func23 rfl Tryz.ntmps23 (Nle rfl) fun w A hB => ?_
 have hnew : True := trivial
 refine VC.sr ?_
 refine VO.ma rfl rfl rfl rfl ?_
 refine VO.nil ?_
 refine VC.seq ?_
 refine VC.sr ?_
 refine VO.mv rfl rfl rfl rfl ?_
 refine VO.val rfl rfl (OpV.len_im rfl Tryz.underlying22 rfl) ?_
 refine VO.mv rfl rfl rfl rfl ?_
 refine VO.val rfl rfl (OpV.len_im rfl Tryz.underlying22 rfl) ?_
 refine VO.val rfl rfl (OpV.neq rfl rfl rfl) ?_
 refine VO.nil ?_
 refine VC.cond rfl (fun aH1b => ?_) (fun aH1b => ?_)
 ·have aH1 := aH1b
  try simp only [qqT, qqF, qqN, qqM, qqL, qqE] at aH1
  refine VC.sr ?_
  refine VO.ma rfl rfl rfl rfl ?_
  refine VO.nil ?_
  refine VC.ret ?_
  exact Exists.intro _ (And.intro (RetN.one Tryz.results23 (ResN.v rfl)) (by first | rw [eqL_len (by omega)] | rw [eqL_ne (q := q) (by omega)] | rw [eqL_all (by omega) hn (by omega)]))
 ·have aH1 := aH1b
  try simp only [qqT, qqF, qqN, qqM, qqL, qqE] at aH1
  refine VC.skip ?_
  refine VC.seq ?_
  refine VC.sr ?_
  refine VO.mv rfl rfl rfl rfl ?_
  refine VO.val rfl rfl (OpV.len_im rfl Tryz.underlying22 rfl) ?_
  refine VO.mv rfl rfl rfl rfl ?_
  refine VO.nil ?_
  refine VC.block ?_
  refine VC.loopK [] trivial ({q : Nat // q ≤ xs.length ∧ ∀ j, j < q → xs.getD j 0 = ys.getD j 0}) (fun (iZ : {q : Nat // q ≤ xs.length ∧ ∀ j, j < q → xs.getD j 0 = ys.getD j 0}) => match iZ with | ⟨q, hq, hn⟩ => [(0, avInts xs), (1, avInts ys), (12, avI xs.length), (13, avI (q : Int))]) (fun (iZ : {q : Nat // q ≤ xs.length ∧ ∀ j, j < q → xs.getD j 0 = ys.getD j 0}) => match iZ with | ⟨q, hq, hn⟩ => []) (fun (iZ : {q : Nat // q ≤ xs.length ∧ ∀ j, j < q → xs.getD j 0 = ys.getD j 0}) => match iZ with | ⟨q, hq, hn⟩ => 0) (fun (iZ : {q : Nat // q ≤ xs.length ∧ ∀ j, j < q → xs.getD j 0 = ys.getD j 0}) => match iZ with | ⟨q, hq, hn⟩ => xs.length - q) ⟨0, Nat.zero_le _, fun j hj => absurd hj (Nat.not_lt_zero j)⟩ (Le.mk hB [] ⟨rfl, rfl, rfl, rfl, trivial⟩ rfl rfl (Nat.le_refl _)) ?_
  rintro ⟨q, hq, hn⟩
  show VC _ _ _ _ ⟨[(0, avInts xs), (1, avInts ys), (12, avI xs.length), (13, avI (q : Int))] ++ [], [], 0⟩
  refine VC.sr ?_
  refine VO.val rfl rfl (OpV.lss rfl rfl rfl) ?_
  refine VO.nil ?_
  refine VC.seq ?_
  refine VC.cond rfl (fun aH2b => ?_) (fun aH2b => ?_)
  ·have aH2 := aH2b
   try simp only [qqT, qqF, qqN, qqM, qqL, qqE] at aH2
   refine VC.skip ?_
   refine VC.seq ?_
   refine VC.block ?_
   refine VC.sr ?_
   refine VO.mv rfl rfl rfl rfl ?_
   refine VO.ma rfl rfl rfl rfl ?_
   refine VO.nil ?_
   refine VC.seq ?_
   refine VC.draw (fun _ => NoB) hB (by kernel_rfl) ?_
   refine VA.take (i := 0) rfl (by kernel_rfl) (by kernel_rfl) (by kernel_rfl) rfl rfl (OpV.move (.inl rfl) rfl) ?_
   refine VA.take (i := 1) rfl (by kernel_rfl) (by kernel_rfl) (by kernel_rfl) rfl rfl (OpV.move (.inl rfl) rfl) ?_
   refine VA.take (i := 2) rfl (by kernel_rfl) (by kernel_rfl) (by kernel_rfl) rfl rfl (OpV.indexAddr_1 rfl Tryz.underlying22 Tryz.sizeOf3 rfl rfl rfl (by omega)) ?_
   refine VA.take (i := 3) rfl (by kernel_rfl) (by kernel_rfl) (by kernel_rfl) rfl rfl (OpV.load_at rfl hB OutW.wi0 Tryz.isAgg3 rfl rfl) ?_
   refine VA.take (i := 4) rfl (by kernel_rfl) (by kernel_rfl) (by kernel_rfl) rfl rfl (OpV.move (.inl rfl) rfl) ?_
   refine VA.take (i := 5) rfl (by kernel_rfl) (by kernel_rfl) (by kernel_rfl) rfl rfl (OpV.move (.inl rfl) rfl) ?_
   refine VA.take (i := 6) rfl (by kernel_rfl) (by kernel_rfl) (by kernel_rfl) rfl rfl (OpV.indexAddr_1 rfl Tryz.underlying22 Tryz.sizeOf3 rfl rfl rfl (by omega)) ?_
   refine VA.take (i := 7) rfl (by kernel_rfl) (by kernel_rfl) (by kernel_rfl) rfl rfl (OpV.load_at rfl hB OutW.wi0 Tryz.isAgg3 rfl rfl) ?_
   refine VA.take (i := 8) rfl (by kernel_rfl) (by kernel_rfl) (by kernel_rfl) rfl rfl (OpV.neq rfl rfl rfl) ?_
   refine VA.done (by kernel_rfl) ?_
   refine VC.cond rfl (fun aH3b => ?_) (fun aH3b => ?_)
   ·have aH3 := aH3b
    try simp only [qqT, qqF, qqN, qqM, qqL, qqE] at aH3
    refine VC.sr ?_
    refine VO.ma rfl rfl rfl rfl ?_
    refine VO.nil ?_
    refine VC.ret ?_
    exact Exists.intro _ (And.intro (RetN.one Tryz.results23 (ResN.v rfl)) (by first | rw [eqL_len (by omega)] | rw [eqL_ne (q := q) (by omega)] | rw [eqL_all (by omega) hn (by omega)]))
   ·have aH3 := aH3b
    try simp only [qqT, qqF, qqN, qqM, qqL, qqE] at aH3
    refine VC.skip ?_
    refine VC.region ?_
    refine VO.val rfl rfl (OpV.add rfl rfl rfl (by unfold fits; omega)) ?_
    refine VO.mv rfl rfl rfl rfl ?_
    refine VO.nil ?_
    exact Exists.intro (⟨q + 1, by omega, lt_succ_cases hn (by omega)⟩) (And.intro (Le.mk hB [] ⟨rfl, rfl, rfl, rfl, trivial⟩ rfl rfl (Nat.le_refl _)) (by first | omega | (show _ < _; omega) | (simp only []; omega)))
  ·have aH2 := aH2b
   try simp only [qqT, qqF, qqN, qqM, qqL, qqE] at aH2
   refine VC.exit ?_
   refine VC.sr ?_
   refine VO.ma rfl rfl rfl rfl ?_
   refine VO.nil ?_
   refine VC.ret ?_
   exact Exists.intro _ (And.intro (RetN.one Tryz.results23 (ResN.v rfl)) (by first | rw [eqL_len (by omega)] | rw [eqL_ne (q := q) (by omega)] | rw [eqL_all (by omega) hn (by omega)]))
end Go.Proofs.YtemnnmohdpabhaaGreatDoor
