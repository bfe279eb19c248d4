/- Part 5 of a proof: the walks and laws that it needs. -/
import Derived.Test.YtplphabekhaoaaaGreatDoorProg
import Derived.BigRegion
import Derived.Deep.QuietTactic
import Derived.BigQuiet
import Derived.Test.YtplphabekhaoaaaGreatDoorZB4
namespace Go.Proofs.YtplphabekhaoaaaGreatDoor
open Go.RowKit
set_option linter.unusedVariables false
set_option linter.unusedSimpArgs false

def ShS (m : Nat) (l : List ByteArray) : Prop := l.length ≤ m ∧ ∀ x ∈ l, x.size ≤ 1000
theorem ShS.sms {m : Nat} {l : List ByteArray} (h : ShS m l) (hm : m ≤ 1000) : SmS l := ⟨by have := h.1; omega, fun i => by
 by_cases hi : i < l.length
 ·have := h.2 _ (List.getElem_mem hi)
  simp only [List.getD_eq_getElem?_getD, List.getElem?_eq_getElem hi, Option.getD_some]; omega
 ·simp [List.getD_eq_getElem?_getD, List.getElem?_eq_none (by omega : l.length ≤ i)]⟩
theorem ShS.snoc {m : Nat} {l : List ByteArray} (h : ShS m l) {x : ByteArray} (hx : x.size ≤ 1000) : ShS (m + 1) (l ++ [x]) := ⟨by have := h.1; simp; omega, fun y hy => by
 rcases List.mem_append.1 hy with hy | hy
 ·exact h.2 y hy
 ·simp at hy; subst hy; exact hx⟩
theorem ShS.mono {m n : Nat} {l : List ByteArray} (h : ShS m l) (hn : m ≤ n) : ShS n l := ⟨Nat.le_trans h.1 hn, h.2⟩
def ShSS (p : List (List ByteArray)) : Prop := p.length ≤ 20 ∧ ∀ l ∈ p, ShS 20 l
theorem ShSS.smss {p : List (List ByteArray)} (h : ShSS p) : SmSS p := ⟨by have := h.1; omega, fun i => by
 by_cases hi : i < p.length
 ·have := (h.2 _ (List.getElem_mem hi)).sms (by omega)
  simpa only [List.getD_eq_getElem?_getD, List.getElem?_eq_getElem hi, Option.getD_some] using this
 ·simp only [List.getD_eq_getElem?_getD, List.getElem?_eq_none (by omega : p.length ≤ i), Option.getD_none]
  exact ⟨by decide, fun i => by show (([] : List ByteArray).getD i ByteArray.empty).size ≤ _; simp⟩⟩
theorem size_sixF (q : Nat) : (([⟨#[97]⟩, ⟨#[98]⟩, ⟨#[99]⟩, ⟨#[100]⟩, ⟨#[101]⟩, ⟨#[102]⟩] : List ByteArray).getD q ByteArray.empty).size ≤ 1000 := by
 match q with
 | 0 => decide
 | 1 => decide
 | 2 => decide
 | 3 => decide
 | 4 => decide
 | 5 => decide
 | q + 6 => simp
theorem getD_shs {m : Nat} {p : List (List ByteArray)} (h : ∀ l ∈ p, ShS m l) (i : Nat) : ShS m (p.getD i default) := by
 by_cases hi : i < p.length
 ·have := h _ (List.getElem_mem hi)
  simpa only [List.getD_eq_getElem?_getD, List.getElem?_eq_getElem hi, Option.getD_some] using this
 ·simp only [List.getD_eq_getElem?_getD, List.getElem?_eq_none (by omega : p.length ≤ i), Option.getD_none]
  exact ⟨Nat.zero_le _, fun x h => by cases h⟩
set_option maxRecDepth 100000 in
theorem aSetup_T {p : Nat} {L : List Int} {n : Nat} (hn : n ≤ 20) :
  SpecT Tryz.prog (TT p L) (fun b => b = p) 72 [sp p, avI (n : Int)] 30 (fun y => ∃ l : List ByteArray, ShS 200 l ∧ y = avStrs l) := by
 refine SpecT.of_VC Tryz.func72 rfl Tryz.ntmps72 (Nle rfl) (low := (fun b => b ≤ p)) (fun w A k h => h.ok) fun w A k hk hB => ?_
 have hnew : True := trivial
 refine VC.sr ?_
 refine VO.ma rfl rfl rfl rfl ?_
 refine VO.nil ?_
 refine VC.sr ?_
 refine VO.ma rfl rfl rfl rfl ?_
 refine VO.nil ?_
 refine VC.seq ?_
 refine VC.sr ?_
 refine VO.mv rfl rfl rfl rfl ?_
 refine VO.mv rfl rfl rfl rfl ?_
 refine VO.nil ?_
 refine VC.block ?_
 refine VC.le _ (Le.nilRow 1 9) ?_
 refine VC.loopK [(0, _), (7, _)] ⟨rfl, rfl, trivial⟩ ({t : Value × List ByteArray × Nat // t.2.2 ≤ n ∧ ShS t.2.2 t.2.1}) (fun (iZ : {t : Value × List ByteArray × Nat // t.2.2 ≤ n ∧ ShS t.2.2 t.2.1}) => match iZ with | ⟨⟨u, l, q⟩, hq, hl⟩ => [(5, .v u), (8, avI (q : Int))]) (fun (iZ : {t : Value × List ByteArray × Nat // t.2.2 ≤ n ∧ ShS t.2.2 t.2.1}) => match iZ with | ⟨⟨u, l, q⟩, hq, hl⟩ => [.row u l.length 1 (strsL l) 9]) (fun (iZ : {t : Value × List ByteArray × Nat // t.2.2 ≤ n ∧ ShS t.2.2 t.2.1}) => match iZ with | ⟨⟨u, l, q⟩, hq, hl⟩ => k + q) (fun (iZ : {t : Value × List ByteArray × Nat // t.2.2 ≤ n ∧ ShS t.2.2 t.2.1}) => match iZ with | ⟨⟨u, l, q⟩, hq, hl⟩ => n - q) ⟨(.slice none 0 0, [], 0), Nat.zero_le _, by decide, fun x h => by simp at h⟩ (Le.mk hB [0] ⟨rfl, rfl, rfl, rfl, trivial⟩ rfl rfl (show k ≤ k + 0 by omega)) ?_
 rintro ⟨⟨u, l, q⟩, hq, hl⟩
 show VC _ _ _ _ ⟨[(5, .v u), (8, avI (q : Int))] ++ [(0, _), (7, _)], [.row u l.length 1 (strsL l) 9], k + q⟩
 simp only at hq hl
 have hll := hl.1
 refine VC.sr ?_
 refine VO.val rfl rfl (OpV.lss rfl rfl rfl) ?_
 refine VO.nil ?_
 refine VC.seq ?_
 refine VC.cond rfl (fun aH1b => ?_) (fun aH1b => ?_)
 ·have aH1 := aH1b
  try simp only [qqT, qqF, qqN, qqM, qqL, qqE] at aH1
  refine VC.skip ?_
  refine VC.seq ?_
  refine VC.block ?_
  refine VC.sr ?_
  refine VO.mv rfl rfl rfl rfl ?_
  refine VO.op rfl (OpE.buildSlice (zc := #[.string ⟨#[]⟩, .string ⟨#[]⟩, .string ⟨#[]⟩, .string ⟨#[]⟩, .string ⟨#[]⟩, .string ⟨#[]⟩]) rfl hB rfl Tryz.underlying94 Tryz.sizeOf9 Tryz.zeroValue9 (by decide) (by decide) (by kernel_rfl) rfl rfl ?_)
  refine VO.op rfl (OpE.callT' (k + q) rfl rfl hB rfl Tryz.call31 rfl ((some_T 1000 (by rfl) (by decide) (by decide) (by repeat (first | exact AllS.nil | refine AllS.cons (by first | decide | omega) ?_)))) (by omega) ?_)
  rintro _ ⟨r12, hr12, rfl⟩
  refine VO.ma rfl rfl rfl rfl ?_
  refine VO.nil ?_
  refine VC.seq ?_
  refine VC.sr ?_
  refine VO.mv rfl rfl rfl rfl ?_
  refine VO.mv rfl rfl rfl rfl ?_
  refine VO.op rfl (OpE.callL rfl hB rfl Tryz.call77 (slices_Contains_str (by omega)) (ArgsP.cons (ArgP.rowS (i := 0) rfl rfl rfl) (ArgsP.cons (ArgP.ev rfl) (ArgsP.nil))) ?_)
  rintro _ rfl
  refine VO.nil ?_
  refine VC.cond rfl (fun aH2b => ?_) (fun aH2b => ?_)
  ·have aH2 := aH2b
   try simp only [qqT, qqF, qqN, qqM, qqL, qqE] at aH2
   refine VC.region ?_
   refine VO.ma rfl rfl rfl rfl ?_
   refine VO.nil ?_
   refine VC.region ?_
   refine VO.mv rfl rfl rfl rfl ?_
   refine VO.mv rfl rfl rfl rfl ?_
   refine VO.op rfl (OpE.buildSlice (zc := #[.string ⟨#[]⟩]) rfl hB rfl Tryz.underlying94 Tryz.sizeOf9 Tryz.zeroValue9 (by decide) (by decide) (by kernel_rfl) rfl rfl ?_)
   refine VO.op rfl (OpE.append1 (i := 0) rfl hB rfl Tryz.underlying94 (infoOf Tryz.t9 1 (by kernel_rfl) rfl rfl) rfl (by decide) (by decide) rfl rfl rfl rfl (strsL_snoc _ _) (by omega) (fun _ _ => trivial) ?_)
   intro u2
   refine VO.ma rfl rfl rfl rfl ?_
   refine VO.nil ?_
   refine VC.region ?_
   refine VO.val rfl rfl (OpV.add rfl rfl rfl (by unfold fits; omega)) ?_
   refine VO.mv rfl rfl rfl rfl ?_
   refine VO.nil ?_
   exact Exists.intro (⟨(u2, l ++ [⟨#[]⟩], q + 1), by show q + 1 ≤ n; omega, hl.snoc (by decide)⟩) (And.intro (Le.mk hB [0] ⟨rfl, rfl, rfl, rfl, trivial⟩ rfl (by dsimp only; rw [List.length_append]; rfl) (show k + q + 1 ≤ k + (q + 1) by omega)) (by first | omega | (show _ < _; omega) | (simp only []; omega)))
  ·have aH2 := aH2b
   try simp only [qqT, qqF, qqN, qqM, qqL, qqE] at aH2
   refine VC.skip ?_
   refine VC.region ?_
   refine VO.mv rfl rfl rfl rfl ?_
   refine VO.mv rfl rfl rfl rfl ?_
   refine VO.op rfl (OpE.buildSlice (zc := #[.string ⟨#[]⟩]) rfl hB rfl Tryz.underlying94 Tryz.sizeOf9 Tryz.zeroValue9 (by decide) (by decide) (by kernel_rfl) rfl rfl ?_)
   refine VO.op rfl (OpE.append1 (i := 0) rfl hB rfl Tryz.underlying94 (infoOf Tryz.t9 1 (by kernel_rfl) rfl rfl) rfl (by decide) (by decide) rfl rfl rfl rfl (strsL_snoc _ _) (by omega) (fun _ _ => trivial) ?_)
   intro u2
   refine VO.ma rfl rfl rfl rfl ?_
   refine VO.nil ?_
   refine VC.region ?_
   refine VO.val rfl rfl (OpV.add rfl rfl rfl (by unfold fits; omega)) ?_
   refine VO.mv rfl rfl rfl rfl ?_
   refine VO.nil ?_
   exact Exists.intro (⟨(u2, l ++ [r12], q + 1), by show q + 1 ≤ n; omega, hl.snoc hr12⟩) (And.intro (Le.mk hB [0] ⟨rfl, rfl, rfl, rfl, trivial⟩ rfl (by dsimp only; rw [List.length_append]; rfl) (show k + q + 1 ≤ k + (q + 1) by omega)) (by first | omega | (show _ < _; omega) | (simp only []; omega)))
 ·have aH1 := aH1b
  try simp only [qqT, qqF, qqN, qqM, qqL, qqE] at aH1
  refine VC.exit ?_
  refine VC.seq ?_
  refine VC.sr ?_
  refine VO.mv rfl rfl rfl rfl ?_
  refine VO.op rfl (OpE.callT' (k + q) rfl rfl hB rfl Tryz.call16 rfl ((flip_T (by omega))) (by omega) ?_)
  rintro _ ⟨r22, rfl⟩
  refine VO.nil ?_
  refine VC.cond rfl (fun aH3b => ?_) (fun aH3b => ?_)
  ·have aH3 := aH3b
   try simp only [qqT, qqF, qqN, qqM, qqL, qqE] at aH3
   refine VC.sr ?_
   refine VO.mv rfl rfl rfl rfl ?_
   refine VO.op rfl (OpE.callT' (k + q + 1) rfl rfl hB rfl Tryz.call54 rfl ((next_T (by omega))) (by omega) ?_)
   rintro _ ⟨r24, hr24, rfl⟩
   refine VO.nil ?_
   refine VC.block ?_
   refine VC.sr ?_
   refine VO.val rfl rfl (OpV.eql rfl rfl rfl) ?_
   refine VO.ma rfl rfl rfl rfl ?_
   refine VO.nil ?_
   refine VC.cond rfl (fun aH4b => ?_) (fun aH4b => ?_)
   ·have aH4 := aH4b
    try simp only [qqT, qqF, qqN, qqM, qqL, qqE] at aH4
    refine VC.sr ?_
    refine VO.ma rfl rfl rfl rfl ?_
    refine VO.nil ?_
    refine VC.le _ (Le.recast (t := 4) (y := avStrs []) rfl (fun w Z u h => by rw [h.eq_v]; exact .nil _ _)) ?_
    refine VC.ret ?_
    exact Exists.intro _ (And.intro (RetV.one Tryz.results72 (ResV.tmp rfl)) (And.intro (⟨[], ⟨by decide, fun x h => by simp at h⟩, rfl⟩) ((show k + q + 1 + 1 ≤ k + 30 by omega))))
   ·have aH4 := aH4b
    try simp only [qqT, qqF, qqN, qqM, qqL, qqE] at aH4
    refine VC.sr ?_
    refine VO.val rfl rfl (OpV.eql rfl rfl rfl) ?_
    refine VO.ma rfl rfl rfl rfl ?_
    refine VO.nil ?_
    refine VC.cond rfl (fun aH5b => ?_) (fun aH5b => ?_)
    ·have aH5 := aH5b
     try simp only [qqT, qqF, qqN, qqM, qqL, qqE] at aH5
     refine VC.sr ?_
     refine VO.mv rfl rfl rfl rfl ?_
     refine VO.mv rfl rfl rfl rfl ?_
     refine VO.op rfl (OpE.buildSlice (zc := #[.string ⟨#[]⟩, .string ⟨#[]⟩, .string ⟨#[]⟩]) rfl hB rfl Tryz.underlying94 Tryz.sizeOf9 Tryz.zeroValue9 (by decide) (by decide) (by kernel_rfl) rfl rfl ?_)
     refine VO.op rfl (OpE.callT' (k + q + 1 + 1) rfl rfl hB rfl Tryz.call31 rfl ((some_T 1000 (by rfl) (by decide) (by decide) (by repeat (first | exact AllS.nil | refine AllS.cons (by first | decide | omega) ?_)))) (by omega) ?_)
     rintro _ ⟨r37, hr37, rfl⟩
     refine VO.op rfl (OpE.buildSlice (zc := #[.string ⟨#[]⟩]) rfl hB rfl Tryz.underlying94 Tryz.sizeOf9 Tryz.zeroValue9 (by decide) (by decide) (by kernel_rfl) rfl rfl ?_)
     refine VO.op rfl (OpE.append1 (i := 0) rfl hB rfl Tryz.underlying94 (infoOf Tryz.t9 1 (by kernel_rfl) rfl rfl) rfl (by decide) (by decide) rfl rfl rfl rfl (strsL_snoc _ _) (by omega) (fun _ _ => trivial) ?_)
     intro u3
     refine VO.ma rfl rfl rfl rfl ?_
     refine VO.nil ?_
     refine VC.le _ (Le.rowS (t := 4) (i := 0) hB hnew rfl rfl (by simp)) ?_
     refine VC.ret ?_
     exact Exists.intro _ (And.intro (RetV.one Tryz.results72 (ResV.tmp rfl)) (And.intro (⟨l ++ [r37], (hl.snoc hr37).mono (by omega), rfl⟩) ((show k + q + 1 + 1 + 1 ≤ k + 30 by omega))))
    ·have aH5 := aH5b
     try simp only [qqT, qqF, qqN, qqM, qqL, qqE] at aH5
     refine VC.sr ?_
     refine VO.op rfl (OpE.buildSlice (zc := #[.string ⟨#[]⟩]) rfl hB rfl Tryz.underlying94 Tryz.sizeOf9 Tryz.zeroValue9 (by decide) (by decide) (by kernel_rfl) rfl rfl ?_)
     refine VO.le _ (Le.recast (t := 25) (y := avStrs [⟨#[]⟩]) rfl (fun w Z u h => Rep.strs (xs := [⟨#[]⟩]) rfl h)) ?_
     refine VO.mv rfl rfl rfl rfl ?_
     refine VO.op rfl (OpE.callT' (k + q + 1 + 1) rfl rfl hB rfl Tryz.call49 rfl ((range_T (by omega) (by omega) (by omega))) (by omega) ?_)
     rintro _ ⟨r27, hr27, rfl⟩
     obtain ⟨m, rfl⟩ : ∃ m : Nat, r27 = m := ⟨r27.toNat, by omega⟩
     refine VO.val rfl rfl (OpV.add rfl rfl rfl (by unfold fits; omega)) ?_
     refine VO.op rfl (OpE.call rfl hB rfl Tryz.call145 rfl (slices_Repeat_str (x := ⟨#[]⟩) (n := 100 + m) (by omega)) ?_)
     rintro _ rfl
     refine VO.ma rfl rfl rfl rfl ?_
     refine VO.nil ?_
     refine VC.ret ?_
     exact Exists.intro _ (And.intro (RetV.one Tryz.results72 (ResV.tmp rfl)) (And.intro (⟨List.replicate (100 + m) ⟨#[]⟩, ⟨by simp; omega, fun x h => by rw [List.eq_of_mem_replicate h]; decide⟩, rfl⟩) ((show k + q + 1 + 1 + 1 ≤ k + 30 by omega))))
  ·have aH3 := aH3b
   try simp only [qqT, qqF, qqN, qqM, qqL, qqE] at aH3
   refine VC.skip ?_
   refine VC.sr ?_
   refine VO.mv rfl rfl rfl rfl ?_
   refine VO.ma rfl rfl rfl rfl ?_
   refine VO.nil ?_
   refine VC.le _ (Le.rowS (t := 4) (i := 0) hB hnew rfl rfl rfl) ?_
   refine VC.ret ?_
   exact Exists.intro _ (And.intro (RetV.one Tryz.results72 (ResV.tmp rfl)) (And.intro (⟨l, hl.mono (by omega), rfl⟩) ((show k + q + 1 ≤ k + 30 by omega))))
def sixF : List ByteArray := [⟨#[97]⟩, ⟨#[98]⟩, ⟨#[99]⟩, ⟨#[100]⟩, ⟨#[101]⟩, ⟨#[102]⟩]
theorem sixF_size (q : Nat) : (sixF.getD q ByteArray.empty).size ≤ 1000 := size_sixF q
set_option maxRecDepth 100000 in
theorem partLists_M {p : Nat} {L : List Int} {n m : Int} (hn : 0 ≤ n ∧ n ≤ 1000) (hm : 0 ≤ m ∧ m ≤ 10) :
  SpecT Tryz.prog (TT p L) (fun b => b = p) 58 [sp p, avI n, avI m] 100 (fun y => ∃ l : List (List ByteArray), (ShSS l ∧ (l.length : Int) ≤ m) ∧ y = avM l) := by
 have h6 : sixF.length = 6 := rfl
 refine SpecT.of_VC Tryz.func58 rfl Tryz.ntmps58 (Nle rfl) (low := (fun b => b ≤ p)) (fun w A k h => h.ok) fun w A k hk hB => ?_
 have hnew : True := trivial
 refine VC.sr ?_
 refine VO.ma rfl rfl rfl rfl ?_
 refine VO.nil ?_
 refine VC.sr ?_
 refine VO.ma rfl rfl rfl rfl ?_
 refine VO.nil ?_
 refine VC.seq ?_
 refine VC.sr ?_
 refine VO.mv rfl rfl rfl rfl ?_
 refine VO.mv rfl rfl rfl rfl ?_
 refine VO.op rfl (OpE.callT' (k) rfl rfl hB rfl Tryz.call49 rfl ((range_T (by omega) (by omega) (by omega))) (by omega) ?_)
 rintro _ ⟨r14, hr14, rfl⟩
 obtain ⟨N, rfl⟩ : ∃ N : Nat, r14 = N := ⟨r14.toNat, by omega⟩
 refine VO.mv rfl rfl rfl rfl ?_
 refine VO.nil ?_
 refine VC.block ?_
 refine VC.le _ (Le.nilRow 1 94) ?_
 refine VC.loopK [(0, _), (1, _), (14, _)] ⟨rfl, rfl, rfl, trivial⟩ ({t : Value × List (List ByteArray) × Nat // t.2.2 ≤ N ∧ t.2.1.length = t.2.2 ∧ ∀ l ∈ t.2.1, ShS 10 l}) (fun (iZ : {t : Value × List (List ByteArray) × Nat // t.2.2 ≤ N ∧ t.2.1.length = t.2.2 ∧ ∀ l ∈ t.2.1, ShS 10 l}) => match iZ with | ⟨⟨uo, out, q⟩, hq, hol, hos⟩ => [(7, .v uo), (15, avI (q : Int))]) (fun (iZ : {t : Value × List (List ByteArray) × Nat // t.2.2 ≤ N ∧ t.2.1.length = t.2.2 ∧ ∀ l ∈ t.2.1, ShS 10 l}) => match iZ with | ⟨⟨uo, out, q⟩, hq, hol, hos⟩ => [.row uo out.length 1 (listM out) 94]) (fun (iZ : {t : Value × List (List ByteArray) × Nat // t.2.2 ≤ N ∧ t.2.1.length = t.2.2 ∧ ∀ l ∈ t.2.1, ShS 10 l}) => match iZ with | ⟨⟨uo, out, q⟩, hq, hol, hos⟩ => k + 1 + 6 * q) (fun (iZ : {t : Value × List (List ByteArray) × Nat // t.2.2 ≤ N ∧ t.2.1.length = t.2.2 ∧ ∀ l ∈ t.2.1, ShS 10 l}) => match iZ with | ⟨⟨uo, out, q⟩, hq, hol, hos⟩ => N - q) ⟨(.slice none 0 0, [], 0), Nat.zero_le _, rfl, fun x h => by simp at h⟩ (Le.mk hB [0] ⟨rfl, rfl, rfl, rfl, rfl, trivial⟩ rfl rfl (show k + 1 ≤ k + 1 + 6 * 0 by omega)) ?_
 rintro ⟨⟨uo, out, q⟩, hq, hol, hos⟩
 show VC _ _ _ _ ⟨[(7, .v uo), (15, avI (q : Int))] ++ [(0, _), (1, _), (14, _)], [.row uo out.length 1 (listM out) 94], k + 1 + 6 * q⟩
 simp only at hq hol hos
 refine VC.sr ?_
 refine VO.val rfl rfl (OpV.lss rfl rfl rfl) ?_
 refine VO.nil ?_
 refine VC.seq ?_
 refine VC.cond rfl (fun aH1b => ?_) (fun aH1b => ?_)
 ·have aH1 := aH1b
  try simp only [qqT, qqF, qqN, qqM, qqL, qqE] at aH1
  refine VC.skip ?_
  refine VC.seq ?_
  refine VC.block ?_
  refine VC.sr ?_
  refine VO.ma rfl rfl rfl rfl ?_
  refine VO.nil ?_
  refine VC.seq ?_
  refine VC.sr ?_
  refine VO.op rfl (OpE.buildSlice (zc := #[.string ⟨#[]⟩, .string ⟨#[]⟩, .string ⟨#[]⟩, .string ⟨#[]⟩, .string ⟨#[]⟩, .string ⟨#[]⟩]) rfl hB rfl Tryz.underlying94 Tryz.sizeOf9 Tryz.zeroValue9 (by decide) (by decide) (by kernel_rfl) rfl rfl ?_)
  refine VO.le _ (Le.recast (t := 17) (y := avStrs sixF) rfl (fun w Z u h => Rep.strs (xs := sixF) rfl h)) ?_
  refine VO.val rfl rfl (OpV.len_im rfl Tryz.underlying94 rfl) ?_
  refine VO.mv rfl rfl rfl rfl ?_
  refine VO.nil ?_
  refine VC.block ?_
  refine VC.le _ (Le.nilRow 1 9) ?_
  refine VC.loopK [(0, _), (1, _), (7, _), (14, _), (15, _), (17, _), (18, _)] ⟨rfl, rfl, rfl, rfl, rfl, rfl, rfl, trivial⟩ ({t : Value × List ByteArray × Nat // t.2.2 ≤ 6 ∧ ShS t.2.2 t.2.1}) (fun (iZ : {t : Value × List ByteArray × Nat // t.2.2 ≤ 6 ∧ ShS t.2.2 t.2.1}) => match iZ with | ⟨⟨u, l, r⟩, hr, hl⟩ => [(8, .v u), (19, avI (r : Int))]) (fun (iZ : {t : Value × List ByteArray × Nat // t.2.2 ≤ 6 ∧ ShS t.2.2 t.2.1}) => match iZ with | ⟨⟨u, l, r⟩, hr, hl⟩ => [.row uo out.length 1 (listM out) 94, .row u l.length 1 (strsL l) 9]) (fun (iZ : {t : Value × List ByteArray × Nat // t.2.2 ≤ 6 ∧ ShS t.2.2 t.2.1}) => match iZ with | ⟨⟨u, l, r⟩, hr, hl⟩ => k + 1 + 6 * q + r) (fun (iZ : {t : Value × List ByteArray × Nat // t.2.2 ≤ 6 ∧ ShS t.2.2 t.2.1}) => match iZ with | ⟨⟨u, l, r⟩, hr, hl⟩ => 6 - r) ⟨(.slice none 0 0, [], 0), Nat.zero_le _, by decide, fun x h => by simp at h⟩ (Le.mk hB [0, 1] ⟨rfl, rfl, rfl, rfl, rfl, rfl, rfl, rfl, rfl, trivial⟩ rfl rfl (show k + 1 + 6 * q ≤ k + 1 + 6 * q + 0 by omega)) ?_
  rintro ⟨⟨u, l, r⟩, hr, hl⟩
  show VC _ _ _ _ ⟨[(8, .v u), (19, avI (r : Int))] ++ [(0, _), (1, _), (7, _), (14, _), (15, _), (17, _), (18, _)], [.row uo out.length 1 (listM out) 94, .row u l.length 1 (strsL l) 9], k + 1 + 6 * q + r⟩
  simp only at hr hl
  have hll := hl.1
  refine VC.sr ?_
  refine VO.val rfl rfl (OpV.lss rfl rfl rfl) ?_
  refine VO.nil ?_
  refine VC.seq ?_
  refine VC.cond rfl (fun aH2b => ?_) (fun aH2b => ?_)
  ·have aH2 := aH2b
   try simp only [qqT, qqF, qqN, qqM, qqL, qqE] at aH2
   refine VC.skip ?_
   refine VC.seq ?_
   refine VC.block ?_
   refine VC.sr ?_
   refine VO.val rfl rfl (OpV.indexAddr_1 rfl Tryz.underlying94 Tryz.sizeOf9 rfl rfl rfl (by show _ < sixF.length; omega)) ?_
   refine VO.val rfl rfl (OpV.load_at rfl hB OutW.no Tryz.isAgg9 rfl rfl) ?_
   refine VO.ma rfl rfl rfl rfl ?_
   refine VO.nil ?_
   refine VC.sr ?_
   refine VO.mv rfl rfl rfl rfl ?_
   refine VO.op rfl (OpE.callT' (k + 1 + 6 * q + r) rfl rfl hB rfl Tryz.call16 rfl ((flip_T (by omega))) (by omega) ?_)
   rintro _ ⟨r24, rfl⟩
   refine VO.mv rfl rfl rfl rfl ?_
   refine VO.opG rfl rfl rfl rfl (fun aK3b => ?_) (fun aK3b => ?_)
   ·replace aK3b : _ = true := aK3b
    have aK3 := aK3b
    try simp only [qqT, qqF, qqN, qqM, qqL, qqE] at aK3
    refine OpE.val (W := NoB) (OpV.move (.inl rfl) rfl) rfl ?_
    refine VO.opY rfl rfl rfl rfl aK3b ?_
    refine OpE.val (W := NoB) (OpV.len_row (i := 1) rfl Tryz.underlying94 rfl rfl) rfl ?_
    refine VO.opY rfl rfl rfl rfl aK3b ?_
    refine OpE.val (W := NoB) (OpV.move (.inl rfl) rfl) rfl ?_
    refine VO.opY rfl rfl rfl rfl aK3b ?_
    refine OpE.val (W := NoB) (OpV.lss rfl rfl rfl) rfl ?_
    refine VO.val rfl rfl (OpV.pickT rfl rfl rfl rfl aK3b) ?_
    refine VO.nil ?_
    refine VC.cond rfl (fun aH4b => ?_) (fun aH4b => ?_)
    ·have aH4 := aH4b
     try simp only [qqT, qqF, qqN, qqM, qqL, qqE] at aH4
     refine VC.region ?_
     refine VO.mv rfl rfl rfl rfl ?_
     refine VO.mv rfl rfl rfl rfl ?_
     refine VO.op rfl (OpE.buildSlice (zc := #[.string ⟨#[]⟩]) rfl hB rfl Tryz.underlying94 Tryz.sizeOf9 Tryz.zeroValue9 (by decide) (by decide) (by kernel_rfl) rfl rfl ?_)
     refine VO.op rfl (OpE.append1 (i := 1) rfl hB rfl Tryz.underlying94 (infoOf Tryz.t9 1 (by kernel_rfl) rfl rfl) rfl (by decide) (by decide) rfl rfl rfl rfl (strsL_snoc _ _) (by omega) (fun _ _ => trivial) ?_)
     intro u2
     refine VO.ma rfl rfl rfl rfl ?_
     refine VO.nil ?_
     refine VC.region ?_
     refine VO.val rfl rfl (OpV.add rfl rfl rfl (by unfold fits; omega)) ?_
     refine VO.mv rfl rfl rfl rfl ?_
     refine VO.nil ?_
     exact Exists.intro (⟨(u2, l ++ [sixF.getD r ByteArray.empty], r + 1), by show r + 1 ≤ 6; omega, hl.snoc (sixF_size r)⟩) (And.intro (Le.mk hB [0, 1] ⟨rfl, rfl, rfl, rfl, rfl, rfl, rfl, rfl, rfl, trivial⟩ rfl (by dsimp only; first | rfl | (rw [List.length_append]; rfl)) (show k + 1 + 6 * q + r + 1 ≤ k + 1 + 6 * q + (r + 1) by omega)) (by first | omega | (show _ < _; omega) | (simp only []; omega)))
    ·have aH4 := aH4b
     try simp only [qqT, qqF, qqN, qqM, qqL, qqE] at aH4
     refine VC.skip ?_
     refine VC.region ?_
     refine VO.val rfl rfl (OpV.add rfl rfl rfl (by unfold fits; omega)) ?_
     refine VO.mv rfl rfl rfl rfl ?_
     refine VO.nil ?_
     exact Exists.intro (⟨(u, l, r + 1), by show r + 1 ≤ 6; omega, hl.mono (by show r ≤ r + 1; omega)⟩) (And.intro (Le.mk hB [0, 1] ⟨rfl, rfl, rfl, rfl, rfl, rfl, rfl, rfl, rfl, trivial⟩ rfl (by dsimp only; first | rfl | (rw [List.length_append]; rfl)) (show k + 1 + 6 * q + r + 1 ≤ k + 1 + 6 * q + (r + 1) by omega)) (by first | omega | (show _ < _; omega) | (simp only []; omega)))
   ·replace aK3b : _ = false := aK3b
    have aK3 := aK3b
    try simp only [qqT, qqF, qqN, qqM, qqL, qqE] at aK3
    refine VO.opX rfl rfl rfl rfl aK3b ?_
    refine VO.opX rfl rfl rfl rfl aK3b ?_
    refine VO.opX rfl rfl rfl rfl aK3b ?_
    refine VO.val rfl rfl (OpV.pickF rfl rfl rfl rfl aK3b) ?_
    refine VO.nil ?_
    refine VC.condF rfl rfl ?_
    refine VC.skip ?_
    refine VC.region ?_
    refine VO.val rfl rfl (OpV.add rfl rfl rfl (by unfold fits; omega)) ?_
    refine VO.mv rfl rfl rfl rfl ?_
    refine VO.nil ?_
    exact Exists.intro (⟨(u, l, r + 1), by show r + 1 ≤ 6; omega, hl.mono (by show r ≤ r + 1; omega)⟩) (And.intro (Le.mk hB [0, 1] ⟨rfl, rfl, rfl, rfl, rfl, rfl, rfl, rfl, rfl, trivial⟩ rfl (by dsimp only; first | rfl | (rw [List.length_append]; rfl)) (show k + 1 + 6 * q + r + 1 ≤ k + 1 + 6 * q + (r + 1) by omega)) (by first | omega | (show _ < _; omega) | (simp only []; omega)))
  ·have aH2 := aH2b
   try simp only [qqT, qqF, qqN, qqM, qqL, qqE] at aH2
   refine VC.exit ?_
   refine VC.region ?_
   refine VO.mv rfl rfl rfl rfl ?_
   refine VO.le _ (Le.recast (t := 36) (y := .v uo) rfl (fun w Z u h => h)) ?_
   refine VO.mv rfl rfl rfl rfl ?_
   refine VO.le _ (Le.rowS (t := 37) (i := 1) hB hnew rfl rfl (by first | rfl | simp)) ?_
   refine VO.op rfl (OpE.buildSlice (zc := #[.slice none 0 0]) rfl hB rfl Tryz.underlying91 Tryz.sizeOf94 Tryz.zeroValue94 (by decide) (by decide) (by kernel_rfl) rfl rfl ?_)
   refine VO.op rfl (OpE.append1 (i := 0) rfl hB rfl Tryz.underlying91 (infoOf Tryz.t94 1 (by kernel_rfl) rfl rfl) rfl (by decide) (by decide) rfl rfl rfl rfl (listM_snoc out _) (by omega) (fun _ _ => trivial) ?_)
   intro uo2
   refine VO.ma rfl rfl rfl rfl ?_
   refine VO.nil ?_
   refine VC.region ?_
   refine VO.val rfl rfl (OpV.add rfl rfl rfl (by unfold fits; omega)) ?_
   refine VO.mv rfl rfl rfl rfl ?_
   refine VO.nil ?_
   exact Exists.intro (⟨(uo2, out ++ [l], q + 1), by show q + 1 ≤ N; omega, by show (out ++ [l]).length = q + 1; simp; omega, fun x hx => by rcases List.mem_append.1 hx with hx | hx; exact hos x hx; (simp at hx; subst hx; exact hl.mono (by omega))⟩) (And.intro (Le.mk hB [0] ⟨rfl, rfl, rfl, rfl, rfl, trivial⟩ rfl (by dsimp only; rw [List.length_append]; rfl) (show k + 1 + 6 * q + r ≤ k + 1 + 6 * (q + 1) by omega)) (by first | omega | (show _ < _; omega) | (simp only []; omega)))
 ·have aH1 := aH1b
  try simp only [qqT, qqF, qqN, qqM, qqL, qqE] at aH1
  refine VC.exit ?_
  refine VC.seq ?_
  refine VC.sr ?_
  refine VO.mv rfl rfl rfl rfl ?_
  refine VO.val rfl rfl (OpV.len_row (i := 0) rfl Tryz.underlying91 rfl rfl) ?_
  refine VO.val rfl rfl (OpV.gtr rfl rfl rfl) ?_
  refine VO.mv rfl rfl rfl rfl ?_
  refine VO.opG rfl rfl rfl rfl (fun aK5b => ?_) (fun aK5b => ?_)
  ·replace aK5b : _ = true := aK5b
   have aK5 := aK5b
   try simp only [qqT, qqF, qqN, qqM, qqL, qqE] at aK5
   refine OpE.val (W := NoB) (OpV.move (.inl rfl) rfl) rfl ?_
   refine VO.opY rfl rfl rfl rfl aK5b ?_
   refine OpE.callT' (k + 1 + 6 * q) rfl rfl hB rfl Tryz.call16 rfl ((flip_T (by omega))) (by omega) ?_
   rintro _ ⟨r46, rfl⟩
   refine VO.val rfl rfl (OpV.pickT rfl rfl rfl rfl aK5b) ?_
   refine VO.nil ?_
   refine VC.cond rfl (fun aH6b => ?_) (fun aH6b => ?_)
   ·have aH6 := aH6b
    try simp only [qqT, qqF, qqN, qqM, qqL, qqE] at aH6
    refine VC.seq ?_
    refine VC.asBox (i := 0) rfl (by omega) (fun g cap hu hcap hmx => ?_)
    subst hu
    refine VC.region ?_
    refine VO.mv rfl rfl rfl rfl ?_
    refine VO.mv rfl rfl rfl rfl ?_
    refine VO.mv rfl rfl rfl rfl ?_
    refine VO.val rfl rfl (OpV.len_v rfl Tryz.underlying91 rfl) ?_
    refine VO.op rfl (OpE.callT' (k + 1 + 6 * q + 1) rfl rfl hB rfl Tryz.call54 rfl ((next_T (by omega))) (by omega) ?_)
    rintro _ ⟨r52, hr52, rfl⟩
    obtain ⟨mm, rfl⟩ : ∃ mm : Nat, r52 = mm := ⟨r52.toNat, by omega⟩
    refine VO.val rfl rfl (OpV.indexAddr_o rfl Tryz.underlying91 Tryz.sizeOf94 rfl rfl rfl (by omega)) ?_
    refine VO.ma rfl rfl rfl rfl ?_
    refine VO.nil ?_
    refine VC.region ?_
    refine VO.mv rfl rfl rfl rfl ?_
    refine VO.mv rfl rfl rfl rfl ?_
    refine VO.val rfl rfl (OpV.nilCheck rfl rfl) ?_
    refine VO.val rfl rfl (OpV.load_own (i := 0) rfl hB Tryz.isAgg94 rfl rfl (listM_get (by omega)) (fun h => h)) ?_
    refine VO.op rfl (OpE.callR rfl hB rfl Tryz.call130 (slices_CloneS_R (by have := (getD_shs hos mm).1; omega)) (ArgsP.cons (ArgP.ev rfl) (ArgsP.nil)) ?_)
    intro u58
    refine VO.mv rfl rfl rfl rfl ?_
    refine VO.op rfl (OpE.buildSlice (zc := #[.string ⟨#[]⟩, .string ⟨#[]⟩, .string ⟨#[]⟩, .string ⟨#[]⟩]) rfl hB rfl Tryz.underlying94 Tryz.sizeOf9 Tryz.zeroValue9 (by decide) (by decide) (by kernel_rfl) rfl rfl ?_)
    refine VO.op rfl (OpE.callT' (k + 1 + 6 * q + 1 + 1) rfl rfl hB rfl Tryz.call31 rfl ((some_T 1000 (by rfl) (by decide) (by decide) (by repeat (first | exact AllS.nil | refine AllS.cons (by first | decide | omega) ?_)))) (by omega) ?_)
    rintro _ ⟨r61, hr61, rfl⟩
    refine VO.op rfl (OpE.buildSlice (zc := #[.string ⟨#[]⟩]) rfl hB rfl Tryz.underlying94 Tryz.sizeOf9 Tryz.zeroValue9 (by decide) (by decide) (by kernel_rfl) rfl rfl ?_)
    refine VO.op rfl (OpE.append1 (i := 1) rfl hB rfl Tryz.underlying94 (infoOf Tryz.t9 1 (by kernel_rfl) rfl rfl) rfl (by decide) (by decide) rfl rfl rfl rfl (strsL_snoc _ _) (by have := (getD_shs hos mm).1; omega) (fun _ _ => trivial) ?_)
    intro u63
    refine VO.le _ (Le.rowS (t := 63) (i := 1) hB hnew rfl rfl (by first | rfl | simp)) ?_
    refine VO.val rfl rfl (OpV.nilCheck rfl rfl) ?_
    refine VO.op rfl (OpE.store1 (i := 0) rfl hB rfl Tryz.sizeOf94 rfl rfl rfl rfl rfl rfl (by rw [listM_len]; omega) (listM_set _ _ _) trivial ?_)
    refine VO.nil ?_
    refine VC.sr ?_
    refine VO.mv rfl rfl rfl rfl ?_
    refine VO.ma rfl rfl rfl rfl ?_
    refine VO.nil ?_
    refine VC.le _ (Le.boxM (t := 6) (i := 0) (n := out.length) hB hnew rfl rfl (by simp) hcap hmx) ?_
    refine VC.ret ?_
    exact Exists.intro _ (And.intro (RetV.one Tryz.results58 (ResV.tmp rfl)) (And.intro (by first | exact ⟨out, ⟨⟨by omega, fun l hl => (hos l hl).mono (by omega)⟩, by omega⟩, rfl⟩ | exact ⟨out.set mm (out.getD mm default ++ [r61]), ⟨⟨by simp; omega, fun l hl => by rcases List.mem_or_eq_of_mem_set hl with h' | rfl; exact (hos l h').mono (by omega); exact ((getD_shs hos mm).snoc hr61).mono (by omega)⟩, by rw [List.length_set]; omega⟩, rfl⟩) ((show k + 1 + 6 * q + 1 + 1 + 1 ≤ k + 100 by omega))))
   ·have aH6 := aH6b
    try simp only [qqT, qqF, qqN, qqM, qqL, qqE] at aH6
    refine VC.skip ?_
    refine VC.sr ?_
    refine VO.mv rfl rfl rfl rfl ?_
    refine VO.ma rfl rfl rfl rfl ?_
    refine VO.nil ?_
    refine VC.le _ (Le.rowsM (t := 6) (i := 0) hB hnew rfl rfl rfl) ?_
    refine VC.ret ?_
    exact Exists.intro _ (And.intro (RetV.one Tryz.results58 (ResV.tmp rfl)) (And.intro (by first | exact ⟨out, ⟨⟨by omega, fun l hl => (hos l hl).mono (by omega)⟩, by omega⟩, rfl⟩ | exact ⟨out.set mm (out.getD mm default ++ [r61]), ⟨⟨by simp; omega, fun l hl => by rcases List.mem_or_eq_of_mem_set hl with h' | rfl; exact (hos l h').mono (by omega); exact ((getD_shs hos mm).snoc hr61).mono (by omega)⟩, by rw [List.length_set]; omega⟩, rfl⟩) ((show k + 1 + 6 * q + 1 ≤ k + 100 by omega))))
  ·replace aK5b : _ = false := aK5b
   have aK5 := aK5b
   try simp only [qqT, qqF, qqN, qqM, qqL, qqE] at aK5
   refine VO.opX rfl rfl rfl rfl aK5b ?_
   refine VO.val rfl rfl (OpV.pickF rfl rfl rfl rfl aK5b) ?_
   refine VO.nil ?_
   refine VC.condF rfl rfl ?_
   refine VC.skip ?_
   refine VC.sr ?_
   refine VO.mv rfl rfl rfl rfl ?_
   refine VO.ma rfl rfl rfl rfl ?_
   refine VO.nil ?_
   refine VC.le _ (Le.rowsM (t := 6) (i := 0) hB hnew rfl rfl rfl) ?_
   refine VC.ret ?_
   exact Exists.intro _ (And.intro (RetV.one Tryz.results58 (ResV.tmp rfl)) (And.intro (by first | exact ⟨out, ⟨⟨by omega, fun l hl => (hos l hl).mono (by omega)⟩, by omega⟩, rfl⟩ | exact ⟨out.set mm (out.getD mm default ++ [r61]), ⟨⟨by simp; omega, fun l hl => by rcases List.mem_or_eq_of_mem_set hl with h' | rfl; exact (hos l h').mono (by omega); exact ((getD_shs hos mm).snoc hr61).mono (by omega)⟩, by rw [List.length_set]; omega⟩, rfl⟩) ((show k + 1 + 6 * q ≤ k + 100 by omega))))
end Go.Proofs.YtplphabekhaoaaaGreatDoor
namespace Go.Proofs.YtplphabekhaoaaaGreatDoor
open Go.RowKit
set_option linter.unusedVariables false
set_option linter.unusedSimpArgs false
theorem Le.boolF {B : Bs} {s : St'} {t : Nat} {b : Bool} (ht : look s.sl t = some (avB b)) (hb : b = false) : Le B s ⟨(t, avB false) :: s.sl, s.hp, s.k⟩ := Le.recast ht fun w Z u h => by subst hb; exact h
end Go.Proofs.YtplphabekhaoaaaGreatDoor
namespace Go.Proofs.YtplphabekhaoaaaGreatDoor
set_option linter.unusedVariables false
set_option linter.unusedSimpArgs false

theorem mov_up {c bf : List Int} (h : RightLine c bf) (k : Nat) (hk : k < c.length) (b b' : Nat) (hb : b ≤ b') : (mov c bf b k).left ≤ (mov c bf b' k).left := by
 have := pas_up h k hk b b' hb
 rw [(pas_mov h b k hk).2, (pas_mov h b' k hk).2] at this
 exact this

theorem mov_le_left {c b1 b2 : List Int} (h1 : RightLine c b1) (h2 : RightLine c b2) (hb : ∀ k, at' b1 k ≤ at' b2 k) (b k : Nat) (hk : k < c.length)
  (e : (mov c b2 b k).taken ≤ (mov c b1 b k).taken) (ih : ∀ b', b' < b → ∀ k, k < c.length → (mov c b2 b' k).left ≤ (mov c b1 b' k).left) : (mov c b2 b k).left ≤ (mov c b1 b k).left := by
 have l1 := mov_left c b1 b k
 have l2 := mov_left c b2 b k
 have g1 := h1.b0 k
 have g2 := h2.b0 k
 have hbk := hb k
 by_cases hk1 : k + 1 < c.length
 ·by_cases hr2 : at' b2 k < b
  ·rw [if_pos ⟨hk1, g2, hr2⟩] at l2
   rw [if_pos ⟨hk1, g1, by omega⟩] at l1
   have u1 := ih (b - (at' b2 k).toNat - 1) (by omega) (k + 1) hk1
   have u2 := mov_up h1 (k + 1) hk1 (b - (at' b2 k).toNat - 1) (b - (at' b1 k).toNat - 1) (by omega)
   omega
  ·rw [if_neg (by omega)] at l2
   split at l1 <;> omega
 ·rw [if_neg (by omega)] at l1 l2
  omega

theorem mov_le {c b1 b2 : List Int} (h1 : RightLine c b1) (h2 : RightLine c b2) (hb : ∀ k, at' b1 k ≤ at' b2 k) (b : Nat) : ∀ k, k < c.length →
  (mov c b2 b k).taken ≤ (mov c b1 b k).taken ∧ (mov c b2 b k).left ≤ (mov c b1 b k).left := by
 induction b using Nat.strongRecOn with
 | _ b ihb =>
  intro k
  induction k with
  | zero =>
   intro hk
   have t1 := mov_taken c b1 b 0
   have t2 := mov_taken c b2 b 0
   have e : (mov c b2 b 0).taken ≤ (mov c b1 b 0).taken := by
    by_cases hb0 : b = 0
    ·subst hb0; simp at t1 t2; omega
    ·simp only [if_true, if_neg hb0] at t1 t2
     have := (ihb (b - 1) (by omega) 0 hk).2
     omega
   exact ⟨e, mov_le_left h1 h2 hb b 0 hk e fun b' hb' k hk => (ihb b' hb' k hk).2⟩
  | succ k ihk =>
   intro hk
   have t1 := mov_taken c b1 b (k + 1)
   have t2 := mov_taken c b2 b (k + 1)
   have hp := (ihk (by omega)).2
   have e : (mov c b2 b (k + 1)).taken ≤ (mov c b1 b (k + 1)).taken := by
    rw [if_neg (by omega)] at t1 t2
    simp only [Nat.add_sub_cancel] at t1 t2
    by_cases hb0 : b = 0
    ·subst hb0; simp only [if_true] at t1 t2; omega
    ·simp only [if_neg hb0] at t1 t2
     have := (ihb (b - 1) (by omega) (k + 1) hk).2
     omega
   exact ⟨e, mov_le_left h1 h2 hb b (k + 1) hk e fun b' hb' k hk => (ihb b' hb' k hk).2⟩

theorem pas_le {c b1 b2 : List Int} (h1 : RightLine c b1) (h2 : RightLine c b2) (hb : ∀ k, at' b1 k ≤ at' b2 k) (b k : Nat) (hk : k < c.length) :
  (pas c b2 b k).left ≤ (pas c b1 b k).left := by
 rw [(pas_mov h2 b k hk).2, (pas_mov h1 b k hk).2]
 exact (mov_le h1 h2 hb b k hk).2

def sumC (c : List Int) : Nat → Int
 | 0 => 0
 | k + 1 => sumC c k + at' c k

theorem pas_zero {c bf : List Int} (h : RightLine c bf) : ∀ k, k < c.length → (pas c bf 0 k).taken = sumC c k ∧ (pas c bf 0 k).left = sumC c (k + 1) := by
 have hl : ∀ k, (pas c bf 0 k).left = (pas c bf 0 k).taken + at' c k := by
  intro k
  have := pas_left c bf 0 k
  have g := h.b0 k
  split at this
  ·split at this
   ·simpa using this
   ·rw [if_neg (by omega)] at this; exact this
  ·exact this
 intro k
 induction k with
 | zero =>
  intro hk
  have t := pas_taken c bf 0 0
  simp [here] at t
  have := hl 0
  exact ⟨by simpa [sumC] using t, by simp [sumC]; omega⟩
 | succ k ih =>
  intro hk
  have t := pas_taken c bf 0 (k + 1)
  simp [here] at t
  have e := (ih (by omega)).2
  have := hl (k + 1)
  refine ⟨by rw [t, e], ?_⟩
  rw [this, t, e]; rfl

theorem pas_next {c bf : List Int} (h : RightLine c bf) (b k : Nat) (hk : k < c.length) : (pas c bf b k).left + at' c k ≤ (pas c bf (b + 1) k).left := by
 have t := pas_taken c bf (b + 1) k
 have := pas_bd h (b + 1) k hk
 simp only [Nat.add_sub_cancel, Nat.add_eq_zero_iff, Nat.one_ne_zero, and_false, if_false] at t
 omega

theorem pas_right {c bf : List Int} (h : RightLine c bf) (b k : Nat) (hk : k + 1 < c.length) : (pas c bf b k).left + at' c (k + 1) ≤ (pas c bf b (k + 1)).left := by
 have t := pas_taken c bf b (k + 1)
 have hh : here c bf b (k + 1) = (pas c bf b k).left := by simp [here]
 have := pas_bd h b (k + 1) hk
 rw [hh] at t
 split at t <;> omega

theorem pas_from {c bf : List Int} (h : RightLine c bf) (k : Nat) (hk : k < c.length) : ∀ b, (sumC c (k + 1) : Int) + b * at' c k ≤ (pas c bf b k).left := by
 intro b
 induction b with
 | zero => have := (pas_zero h k hk).2; simp; omega
 | succ b ih =>
  have := pas_next h b k hk
  rw [Int.natCast_add, Int.add_mul]
  simp
  omega

theorem pas_far {c bf : List Int} (h : RightLine c bf) (b k : Nat) (hk : k < c.length) : ∀ d, k + d < c.length → (pas c bf b k).left + (sumC c (k + d + 1) - sumC c (k + 1)) ≤ (pas c bf b (k + d)).left := by
 intro d
 induction d with
 | zero => intro _; simp
 | succ d ih =>
  intro hd
  have h1 := ih (by omega)
  have h2 := pas_right h b (k + d) (by omega)
  have e : sumC c (k + (d + 1) + 1) = sumC c (k + d + 1) + at' c (k + d + 1) := by rw [show k + (d + 1) + 1 = (k + d + 1) + 1 by omega]; rfl
  rw [e]
  rw [show k + (d + 1) = k + d + 1 by omega]
  omega

theorem pas_slow {c bf : List Int} (h : RightLine c bf) (b k : Nat) (hk : k < c.length) : sumC c c.length + b * at' c k ≤ (pas c bf b (c.length - 1)).left := by
 have hp := h.pos
 have h1 := pas_from h k hk b
 have h2 := pas_far h b k hk (c.length - 1 - k) (by omega)
 rw [show k + (c.length - 1 - k) = c.length - 1 by omega, show c.length - 1 + 1 = c.length by omega] at h2
 omega

theorem blk_last {c bf : List Int} (h : RightLine c bf) (b : Nat) : (pas c bf b (c.length - 1)).left = (pas c bf b (c.length - 1)).taken + at' c (c.length - 1) := by
 have hp := h.pos
 have := pas_left c bf b (c.length - 1)
 rwa [if_neg (by omega)] at this

theorem idl_first {c bf : List Int} (h : RightLine c bf) (b : Nat) : (pas c bf (b + 1) 0).taken = (pas c bf b 0).left := by
 have hp := h.pos
 have t := pas_taken c bf (b + 1) 0
 have hh : here c bf (b + 1) 0 = 0 := by simp [here]
 have := pas_bd h b 0 hp
 have := h.c1 0 hp
 rw [hh] at t
 simp only [Nat.add_sub_cancel, Nat.add_eq_zero_iff, Nat.one_ne_zero, and_false, if_false] at t
 omega

end Go.Proofs.YtplphabekhaoaaaGreatDoor
namespace Go.Proofs.YtplphabekhaoaaaGreatDoor
open Go.RowKit
set_option linter.unusedVariables false
set_option linter.unusedSimpArgs false

def BlkC (w : World) (P : Nat) (cs : Array Value) (e : TypeId) : Prop := w.heap[P]? = some (.cells cs e (0, 0))
namespace BlkC
variable {w w' : World} {P : Nat} {cs : Array Value} {e : TypeId}
theorem new (w : World) (cs : Array Value) (e : TypeId) : BlkC (w.alloc (.cells cs e)) w.heap.size cs e := heap_alloc_new w _
theorem lt (h : BlkC w P cs e) : P < w.heap.size := (Array.getElem?_eq_some_iff.1 h).1
theorem set (h : BlkC w P cs e) (i : Nat) (v : Value) : BlkC (w.setCell ⟨P, i, none⟩ v) P (cs.setIfInBounds i v) e := by
 unfold BlkC at h ⊢; simp [World.setCell, Array.getElem?_modify, h]
theorem drew (h : BlkC w P cs e) : BlkC w.drew P cs e := h
theorem alloc (h : BlkC w P cs e) (o : Obj) : BlkC (w.alloc o) P cs e := (Below.heap_alloc _ _ _ h.lt).trans h
theorem cell (h : BlkC w P cs e) (i : Nat) : w.cell? ⟨P, i, none⟩ = cs[i]? := by
 unfold BlkC at h; simp [World.cell?, h]
theorem froz (h : BlkC w P cs e) (i : Nat) : w.frozen? ⟨P, i, none⟩ = false := by
 unfold BlkC at h; simp [World.frozen?, h]
theorem keep {S : Nat → Prop} (h : BlkC w P cs e) (c : Chg S w w') (hs : ¬ S P) : BlkC w' P cs e := (c.block P h.lt hs).trans h
theorem keepN (h : BlkC w P cs e) (c : Chg NoB w w') : BlkC w' P cs e := h.keep c fun x => x
theorem keepAt {Q : Nat} (h : BlkC w P cs e) (c : Chg (AtB Q) w w') (hB : P ≠ Q) : BlkC w' P cs e := h.keep c fun x => hB x
end BlkC

def Arr (w : World) (g : Nat) (e : TypeId) (xs : List Int) : Prop := BlkC w g (xs.map (Value.int .i64)).toArray e
namespace Arr
variable {w w' : World} {g : Nat} {xs : List Int} {e : TypeId}
theorem new (w : World) (n : Nat) (e : TypeId) : Arr (w.alloc (.cells (Array.replicate n (.int .i64 0)) e)) w.heap.size e (List.replicate n 0) := by
 have := BlkC.new w (Array.replicate n (.int .i64 0)) e
 unfold Arr
 rw [List.map_replicate, List.toArray_replicate]
 exact this
theorem cell (h : Arr w g e xs) (i : Nat) (hi : i < xs.length) : w.cell? ⟨g, i, none⟩ = some (.int .i64 xs[i]) := by
 rw [BlkC.cell h]; simp [hi]
theorem froz (h : Arr w g e xs) (i : Nat) : w.frozen? ⟨g, i, none⟩ = false := BlkC.froz h i
theorem lt (h : Arr w g e xs) : g < w.heap.size := BlkC.lt h
theorem set (h : Arr w g e xs) (i : Nat) (x : Int) : Arr (w.setCell ⟨g, i, none⟩ (.int .i64 x)) g e (xs.set i x) := by
 have := BlkC.set h i (.int .i64 x)
 unfold Arr
 rw [List.map_set, ← List.setIfInBounds_toArray]
 exact this
theorem drew (h : Arr w g e xs) : Arr w.drew g e xs := h
theorem alloc (h : Arr w g e xs) (o : Obj) : Arr (w.alloc o) g e xs := BlkC.alloc h o
theorem keep {S : Nat → Prop} (h : Arr w g e xs) (c : Chg S w w') (hs : ¬ S g) : Arr w' g e xs := BlkC.keep h c hs
theorem keepAt {q : Nat} (h : Arr w g e xs) (c : Chg (AtB q) w w') (hB : g ≠ q) : Arr w' g e xs := h.keep c fun x => hB x
theorem isSl (h : Arr w g e xs) {A : Nat → Prop} (hA : A g) (hm : xs.length ≤ maxLen) : IsSl w A (.slice (some ⟨g, 0, none⟩) xs.length xs.length) xs := by
 refine .inr ⟨g, 0, xs.length, _, e, rfl, hA, Nat.le_refl _, hm, h, fun i hi => ?_⟩
 simp [Enc.Is, Enc.sz, hi]
end Arr

theorem run_make_ints {P : Program} (T e : TypeId) (h1 : P.underlying T = some (.slice e)) (hinfo : (P.info? e).map (fun i => (i.zero, i.size, i.bytes)) = some (some (.int .i64 0), 1, 8))
  (n : Nat) (hn : n ≤ 1000000000) (w : World) : (Instr.makeSlice T (.int .i64 (n : Int)) (.int .i64 (n : Int))).run P w =
   .ok (.slice (some ⟨w.heap.size, 0, none⟩) n n) (w.alloc (.cells (Array.replicate n (.int .i64 0)) e)) := by
 obtain ⟨i, hi, hz0, hz1, hz2⟩ := info_parts hinfo
 have hb : (i.bytes : Int) * (n : Int) ≤ 281474976710656 := by rw [hz2]; omega
 have hr := run_make (P := P) w T e i (.int .i64 0) h1 hi hz0 .i64 .i64 n n (by omega) (Int.le_refl _) hb (by omega)
 simp only [Int.toNat_natCast] at hr
 have he : madeCells (Value.int .i64 0).cells (n * i.size) = Array.replicate n (.int .i64 0) := by
  rw [hz1, Nat.mul_one]
  exact Array.ext' (by show (madeCells #[Value.int .i64 0] n).toList = _; rw [toList_madeCells_one]; simp)
 rw [he] at hr
 exact hr

end Go.Proofs.YtplphabekhaoaaaGreatDoor
namespace Go.Proofs.YtplphabekhaoaaaGreatDoor
open Go.RowKit
set_option linter.unusedVariables false
set_option linter.unusedSimpArgs false

def sumTo (f : Nat → Int) : Nat → Int
 | 0 => 0
 | n + 1 => sumTo f n + f n

theorem sumTo_bd {f : Nat → Int} {M : Int} (n : Nat) (h : ∀ j, j < n → 0 ≤ f j ∧ f j ≤ M) : 0 ≤ sumTo f n ∧ sumTo f n ≤ n * M := by
 induction n with
 | zero => simp [sumTo]
 | succ n ih =>
  have h1 := ih fun j hj => h j (by omega)
  have h2 := h n (by omega)
  have e : ((n + 1 : Nat) : Int) * M = n * M + M := by rw [Int.natCast_add, Int.add_mul]; simp
  simp only [sumTo]
  rw [e]
  omega

def blkAt (c bf : List Int) (k b : Nat) : Int := (pas c bf b k).left - (pas c bf b k).taken - at' c k
def idlAt (c bf : List Int) (k b : Nat) : Int := if b = 0 then 0 else (pas c bf b k).taken - (pas c bf (b - 1) k).left

theorem blkAt_bd {c bf : List Int} (hr : RightLine c bf) (k : Nat) (hk : k < c.length) (b : Nat) (hb : b ≤ 2000) : 0 ≤ blkAt c bf k b ∧ blkAt c bf k b ≤ 30000000000 := by
 have h := pas_bd hr b k hk
 have hc := hr.c1 k hk
 have := hr.len
 unfold blkAt; omega
theorem idlAt_bd {c bf : List Int} (hr : RightLine c bf) (k : Nat) (hk : k < c.length) (b : Nat) (hb : b ≤ 2000) : 0 ≤ idlAt c bf k b ∧ idlAt c bf k b ≤ 30000000000 := by
 unfold idlAt
 split
 ·omega
 ·have h := pas_bd hr b k hk
  have h2 := pas_bd hr (b - 1) k hk
  have hc := hr.c1 k hk
  have := hr.len
  have ht := pas_taken c bf b k
  rw [if_neg (by assumption)] at ht
  omega

def pfx (n k : Nat) (f : Nat → Int) : List Int := (List.range n).map fun j => if j < k then f j else 0
theorem pfx_len (n k : Nat) (f : Nat → Int) : (pfx n k f).length = n := by simp [pfx]
theorem pfx_zero (n : Nat) (f : Nat → Int) : pfx n 0 f = List.replicate n 0 := by
 apply List.ext_getElem (by simp [pfx])
 intro i h1 h2
 simp [pfx]
def pfx1 (n k : Nat) (f : Nat → Int) (x : Int) : List Int := (pfx n k f).set k x
theorem pfx1_len (n k : Nat) (f : Nat → Int) (x : Int) : (pfx1 n k f x).length = n := by simp [pfx1, pfx]
theorem pfx1_get (n k : Nat) (f : Nat → Int) (x : Int) (hk : k < n) : (pfx1 n k f x)[k]'(by simpa [pfx1, pfx] using hk) = x := by simp [pfx1]
theorem pfx1_start (n k : Nat) (f : Nat → Int) (hk : k < n) : pfx n k f = pfx1 n k f 0 := by
 apply List.ext_getElem (by simp [pfx1])
 intro i h1 h2
 simp only [pfx1, List.getElem_set]
 split
 ·subst_vars; simp [pfx]
 ·rfl
theorem pfx1_set (n k : Nat) (f : Nat → Int) (x y : Int) : (pfx1 n k f x).set k y = pfx1 n k f y := by simp [pfx1]
theorem pfx1_done (n k : Nat) (f : Nat → Int) (hk : k < n) : pfx1 n k f (f k) = pfx n (k + 1) f := by
 apply List.ext_getElem (by simp [pfx1, pfx])
 intro i h1 h2
 simp only [pfx1, List.getElem_set, pfx, List.getElem_map, List.getElem_range]
 split
 ·subst_vars; simp
 ·have : i < k + 1 ↔ i < k := by omega
  simp [this]

def blkL (c bf : List Int) (n : Nat) : List Int := (List.range c.length).map fun k => sumTo (blkAt c bf k) n
def idlL (c bf : List Int) (n : Nat) : List Int := (List.range c.length).map fun k => sumTo (idlAt c bf k) n
def blkF (c bf : List Int) (n : Int) : List Int := if flowF c bf n = 0 then blkL c bf n.toNat else []
def idlF (c bf : List Int) (n : Int) : List Int := if flowF c bf n = 0 then idlL c bf n.toNat else []
theorem pfx_all (n : Nat) (f : Nat → Int) : pfx n n f = (List.range n).map f := by
 apply List.ext_getElem (by simp [pfx])
 intro i h1 h2
 simp [pfx] at h1
 simp [pfx, h1]

def Two (w1 wx : World) (n : Nat) (v1 v2 : Value) : Prop :=
 ∃ g1 g2, v1 = .slice (some ⟨g1, 0, none⟩) n n ∧ v2 = .slice (some ⟨g2, 0, none⟩) n n ∧ g1 ≠ g2 ∧ w1.heap.size ≤ g1 ∧ w1.heap.size ≤ g2 ∧
  Arr wx g1 3 (List.replicate n 0) ∧ Arr wx g2 3 (List.replicate n 0) ∧ Chg NoB w1 wx

theorem two_facts (w1 : World) (n : Nat) (e : TypeId) :
  let W := ((w1.alloc (.cells (Array.replicate n (.int .i64 0)) e)).alloc (.cells (Array.replicate n (.int .i64 0)) e)).drew
  Arr W w1.heap.size e (List.replicate n 0) ∧ Arr W (w1.heap.size + 1) e (List.replicate n 0) ∧ Chg NoB w1 W := by
 refine ⟨((Arr.new w1 n e).alloc _).drew, ?_, (((Chg.refl _ w1).alloc _).alloc _).drew⟩
 have := Arr.new (w1.alloc (.cells (Array.replicate n (.int .i64 0)) e)) n e
 rw [World.size_alloc] at this
 exact this.drew
theorem Two.one (w1 : World) (n : Nat) : Two w1 ((w1.alloc (.cells (Array.replicate n (.int .i64 0)) 3)).alloc (.cells (Array.replicate n (.int .i64 0)) 3)).drew n
  (.slice (some ⟨w1.heap.size, 0, none⟩) n n) (.slice (some ⟨w1.heap.size + 1, 0, none⟩) n n) :=
 let ⟨a, b, c⟩ := two_facts w1 n 3; ⟨_, _, rfl, rfl, by omega, by omega, by omega, a, b, c⟩
theorem Two.two (w1 : World) (n : Nat) : Two w1 ((w1.alloc (.cells (Array.replicate n (.int .i64 0)) 3)).alloc (.cells (Array.replicate n (.int .i64 0)) 3)).drew n
  (.slice (some ⟨w1.heap.size + 1, 0, none⟩) n n) (.slice (some ⟨w1.heap.size, 0, none⟩) n n) :=
 let ⟨a, b, c⟩ := two_facts w1 n 3; ⟨_, _, rfl, rfl, by omega, by omega, by omega, b, a, c⟩

def But (B L H : Nat) : Nat → Prop := fun q => B ≤ q ∧ (q < L ∨ H ≤ q)

set_option maxRecDepth 100000 in
set_option maxHeartbeats 1000000 in
theorem blocked_any (v1 v2 : Value) (c bf : List Int) (n : Int) (A1 A2 : Nat → Prop) (w : World) (h1 : IsSl w A1 v1 c) (h2 : IsSl w A2 v2 bf) :
    Calls Tryz.prog 55 #[v1, v2, .int .i64 n] w fun e w' => ∃ y z, e = .returned (.tuple #[y, z, .int .i64 (flowF c bf n)]) ∧ IsSl w' (fun k => w.heap.size ≤ k) y (blkF c bf n) ∧ IsSl w' (fun k => w.heap.size ≤ k) z (idlF c bf n) ∧ Chg NoB w w' := by
  have HF := hid (flowFault_any v1 v2 c bf n A1 A2 w h1 h2)
  by_cases hf : flowF c bf n = 0
  · obtain ⟨hr, hn1, hn2⟩ := flowF_right hf
    obtain ⟨m, rfl⟩ : ∃ m : Nat, n = m := ⟨n.toNat, by omega⟩
    have HL : Hid (blkF c bf m = blkL c bf m ∧ idlF c bf m = idlL c bf m) := by unfold Hid; rw [blkF, idlF, if_pos hf, if_pos hf]; simp
    have HFL : Hid (∀ w1, Chg NoB w w1 → _) := hid fun w1 (hc : Chg NoB w w1) => flow_any v1 v2 c bf m A1 A2 w1 (h1.keepN hc) (h2.keepN hc) hr (by omega)
    have hpos := hr.pos
    have hlen := hr.len
    rw [hf] at HF ⊢
    have HR := hid hr; clear hr hf
    obtain ⟨a1, cap1, rfl, g1, g2⟩ := h1.shape
    unfold maxLen at g2
    obtain ⟨bc, oc, rfl, _, hcc⟩ := h1.ints (by omega)
    have HCC := hid hcc; clear hcc
    go_enter Tryz.func55, Tryz.ntmps55
    go_wp2_with fail
    refine HF.out.mono ?_
    rintro e w1 ⟨rfl, hc1⟩
    go_upto_region 4 with (fail)
    go_cut [10, 11] (fun x10 x11 wx => Two w1 wx c.length x10 x11)
    case first =>
      have hmk := run_make_ints (P := Tryz.prog) 22 3 Tryz.underlying22 infoInt c.length (by omega)
      go_region
      all_goals go_wp2_with fail
      all_goals go_meet
      all_goals (case rel => first | exact Two.one _ _ | exact Two.two _ _)
    case rest =>
      obtain ⟨ga, gb, rfl, rfl, hab, hga, hgb, harr1, harr2, hc2⟩ := hcut
      obtain ⟨w2, rfl⟩ : ∃ w2 : World, w2 = wc := ⟨_, rfl⟩
      have hc12 := hc1.trans hc2
      have hsz1 := hc1.size
      have hga' : w.heap.size ≤ ga := by omega
      have hgb' : w.heap.size ≤ gb := by omega
      have hl1 := harr1.lt
      have hl2 := harr2.lt
      go_wp2_with fail
      refine (HFL.out w2 hc12).mono ?_
      rintro e w3 ⟨v, rfl, hv, hc3⟩
      obtain ⟨av, capv, rfl, g5, g6⟩ := hv.shape
      simp only [List.length_map, List.length_range] at hv g5 ⊢
      obtain ⟨bv, ov, rfl, hbv, hrows⟩ := hv.rows (by simp; omega)
      simp only [List.length_map, List.length_range, List.getElem_map, List.getElem_range] at hrows
      have harr1' := harr1.keep hc3 (fun x => x)
      have harr2' := harr2.keep hc3 (fun x => x)
      have hc13 := hc12.trans hc3
      have hsz3 := hc3.size
      clear harr1 harr2 hv
      go_wp2_with fail
      go_loopw [12, 13, 14, 15, 34] (fun _ _ _ _ i wr => ∃ k : Nat, k ≤ c.length ∧ i = .int .i64 k ∧ Arr wr ga 3 (pfx c.length k fun k => sumTo (blkAt c bf k) m) ∧ Arr wr gb 3 (pfx c.length k fun k => sumTo (idlAt c bf k) m) ∧ Chg (But w.heap.size w2.heap.size w3.heap.size) w3 wr)
        (fun _ _ _ _ i _ => c.length - (intOf i).toNat)
      case atStart => exact ⟨0, by omega, rfl, by rw [pfx_zero]; exact harr1', by rw [pfx_zero]; exact harr2', Chg.refl _ _⟩
      case round =>
        clear harr1' harr2'
        obtain ⟨k, hk, rfl, hra, hrb, hch⟩ := hrel
        by_cases hkl : k < c.length
        · obtain ⟨vr, hcell0, hrow0⟩ := hrows k hkl
          have hbl : ∀ (x : Addr) y, w3.cell? x = some y → w2.heap.size ≤ x.block → ¬ But w.heap.size w2.heap.size w3.heap.size x.block := by
            intro x y hx hl hbt
            have := World.block_lt_of_cell? w3 _ hx
            unfold But at hbt; omega
          have hcell := hch.cell hcell0 (hbl _ _ hcell0 hbv)
          obtain ⟨ar, capr, rfl, g7, g8⟩ := hrow0.shape
          simp only [List.length_map, List.length_range] at hcell hrow0 g7
          have HBL := hid hbl; clear hbl
          clear hcell0
          obtain ⟨wo, rfl⟩ : ∃ wo : World, wo = wr := ⟨_, rfl⟩
          go_wp2_with fail
          go_loopw [14, 15, 41] (fun _ _ i wr => ∃ j : Nat, j ≤ m ∧ i = .int .i64 j ∧ Arr wr ga 3 (pfx1 c.length k (fun k => sumTo (blkAt c bf k) m) (sumTo (blkAt c bf k) j)) ∧ Arr wr gb 3 (pfx1 c.length k (fun k => sumTo (idlAt c bf k) m) (sumTo (idlAt c bf k) j)) ∧ Chg (But w.heap.size w2.heap.size w3.heap.size) w3 wr)
            (fun _ _ i _ => m - (intOf i).toNat)
          case atStart => exact ⟨0, by omega, rfl, by rw [pfx1_start _ _ _ hkl] at hra; exact hra, by rw [pfx1_start _ _ _ hkl] at hrb; exact hrb, hch⟩
          case round =>
            clear hra hrb hch hcell
            obtain ⟨j, hj, rfl, hra, hrb, hch⟩ := hrel
            have hszr := hch.size
            by_cases hjm : j < m
            · obtain ⟨br, or_, rfl, hbr, hps⟩ := hrow0.passes (by simp; omega)
              obtain ⟨p0, p1⟩ := hps j (by simp; omega)
              simp only [List.getElem_map, List.getElem_range] at p0 p1
              have q0 := hch.cell p0 (HBL.out _ _ p0 hbr)
              have q1 := hch.cell p1 (HBL.out _ _ p1 hbr)
              have hp0 := (hps (j - 1) (by simp; omega)).2
              simp only [List.getElem_map, List.getElem_range] at hp0
              have q2 := hch.cell hp0 (HBL.out _ _ hp0 hbr)
              have hcc3 := hc13.cell (HCC.out k hkl) (fun x => x)
              have hck := hch.cell hcc3 (fun x => by have := World.block_lt_of_cell? w _ (HCC.out k hkl); unfold But at x; omega)
              have hac : at' c k = c[k] := by simp [at', hkl]
              have d1 := blkAt_bd HR.out k hkl j (by omega)
              have d2 := idlAt_bd HR.out k hkl j (by omega)
              have d3 := sumTo_bd (f := blkAt c bf k) (M := 30000000000) j fun i hi => blkAt_bd HR.out k hkl i (by omega)
              have d4 := sumTo_bd (f := idlAt c bf k) (M := 30000000000) j fun i hi => idlAt_bd HR.out k hkl i (by omega)
              have d5 := pas_bd HR.out j k hkl
              have d6 := pas_bd HR.out (j - 1) k hkl
              have d7 := HR.out.c1 k hkl
              have e1 : blkAt c bf k j = (pas c bf j k).left - (pas c bf j k).taken - c[k] := by rw [blkAt, hac]
              have s1 : sumTo (blkAt c bf k) (j + 1) = sumTo (blkAt c bf k) j + blkAt c bf k j := rfl
              have s2 : sumTo (idlAt c bf k) (j + 1) = sumTo (idlAt c bf k) j + idlAt c bf k j := rfl
              have r1 := hra.cell k (by rw [pfx1_len]; exact hkl)
              have r2 := hrb.cell k (by rw [pfx1_len]; exact hkl)
              rw [pfx1_get _ _ _ _ hkl] at r1 r2
              have r3 := hra.froz k
              have r4 := hrb.froz k
              rw [hac] at d5 d6 d7
              have e2 : 0 < j → idlAt c bf k j = (pas c bf j k).taken - (pas c bf (j - 1) k).left := fun h => by rw [idlAt, if_neg (by omega)]
              have e3 : j = 0 → idlAt c bf k j = 0 := fun h => by rw [idlAt, if_pos h]
              have S1 : Hid (∀ x, x = sumTo (blkAt c bf k) j + ((pas c bf j k).left - (pas c bf j k).taken - c[k]) → x = sumTo (blkAt c bf k) (j + 1)) := hid fun x hx => by rw [hx, s1, e1]
              have S2 : Hid (∀ x, 0 < j → x = sumTo (idlAt c bf k) j + ((pas c bf j k).taken - (pas c bf (j - 1) k).left) → x = sumTo (idlAt c bf k) (j + 1)) := hid fun x h hx => by rw [hx, s2, e2 h]
              have S3 : Hid (j = 0 → sumTo (idlAt c bf k) j = sumTo (idlAt c bf k) (j + 1)) := hid fun h => by rw [s2, e3 h]; omega
              rw [e1] at d1
              have d2' : 0 < j → 0 ≤ (pas c bf j k).taken - (pas c bf (j - 1) k).left ∧ (pas c bf j k).taken - (pas c bf (j - 1) k).left ≤ 30000000000 := fun h => by rw [← e2 h]; exact d2
              obtain ⟨SB, hSB⟩ : ∃ x, x = sumTo (blkAt c bf k) j := ⟨_, rfl⟩
              obtain ⟨SI, hSI⟩ : ∃ x, x = sumTo (idlAt c bf k) j := ⟨_, rfl⟩
              obtain ⟨X, hX⟩ : ∃ x, x = (pas c bf j k).left := ⟨_, rfl⟩
              obtain ⟨Y, hY⟩ : ∃ x, x = (pas c bf j k).taken := ⟨_, rfl⟩
              obtain ⟨Z, hZ⟩ : ∃ x, x = (pas c bf (j - 1) k).left := ⟨_, rfl⟩
              rw [← hSB] at r1 d3 S1
              rw [← hSI] at r2 d4 S2 S3
              rw [← hX] at q1 d1 d5 S1
              rw [← hY] at q0 d1 d5 d2' S1 S2
              rw [← hZ] at q2 d6 d2' S2
              have hra' := hid hra
              have hrb' := hid hrb
              rw [← hSB] at hra'
              rw [← hSI] at hrb'
              have hgl1 := hra.lt
              have hgl2 := hrb.lt
              have hbl1 : bc < wr.heap.size := World.block_lt_of_cell? wr _ hck
              have hbl2 : br < wr.heap.size := World.block_lt_of_cell? wr _ q0
              clear hSB hSI hX hY hZ e1 e2 e3 s1 s2 d2 hra hrb p0 p1 hp0 hps hac hcc3
              by_cases hj0 : 0 < j
              · have d2 := d2' hj0
                obtain ⟨q, rfl⟩ : ∃ q, j = q + 1 := ⟨j - 1, by omega⟩
                simp only [Nat.add_sub_cancel] at q2
                clear d2'
                go_wp2_with fail
                go_region
                all_goals go_wp2_with fail
                all_goals go_region
                all_goals go_wp2_with fail
                all_goals go_roundw
                case rel =>
                  refine ⟨q + 1 + 1, by omega, by go_num, ?_, ?_, ?_⟩
                  · rw [← S1.out _ rfl, ← pfx1_set]
                    exact ((hra'.out.set k _).keepAt (Chg.setAt _ _ _ _) hab).alloc _
                  · rw [← S2.out _ (by omega) rfl, ← pfx1_set]
                    exact ((hrb'.out.keepAt (Chg.setAt _ _ _ _) (fun e => hab e.symm)).set k _).alloc _
                  · exact ((((hch.setCell (a := ⟨ga, k, none⟩) (fun _ => ⟨hga', .inl hl1⟩) _).setCell (a := ⟨gb, k, none⟩) (fun _ => ⟨hgb', .inl hl2⟩) _).alloc _).drew).drew
                case measure => simp [intOf]; omega
              · clear d2'
                go_wp2_with fail
                go_region
                all_goals go_wp2_with fail
                all_goals go_roundw
                case rel =>
                  refine ⟨j + 1, by omega, by go_num, ?_, ?_, ?_⟩
                  · rw [← S1.out _ rfl, ← pfx1_set]
                    exact (hra'.out.set k _).alloc _
                  · rw [← S3.out (by omega)]
                    exact (hrb'.out.keepAt (Chg.setAt _ _ _ _) (fun e => hab e.symm)).alloc _
                  · exact ((hch.setCell (a := ⟨ga, k, none⟩) (fun _ => ⟨hga', .inl hl1⟩) _).alloc _).drew
                case measure => simp [intOf]; omega
            · obtain rfl : j = m := by omega
              go_wp2_with fail
              go_roundw
              case rel => exact ⟨k + 1, by omega, by go_num, by rw [← pfx1_done _ _ _ hkl]; exact hra, by rw [← pfx1_done _ _ _ hkl]; exact hrb, hch⟩
              case measure => simp [intOf]; omega
        · obtain rfl : k = c.length := by omega
          go_wp2_with fail
          go_ret3
          have hx1 := hra.isSl (A := fun q => w.heap.size ≤ q) (by omega) (by rw [pfx_len]; unfold maxLen; omega)
          have hx2 := hrb.isSl (A := fun q => w.heap.size ≤ q) (by omega) (by rw [pfx_len]; unfold maxLen; omega)
          rw [pfx_len, pfx_all] at hx1 hx2
          exact ⟨_, _, rfl, by rw [HL.out.1]; exact hx1, by rw [HL.out.2]; exact hx2, (hc13.any.trans hch).mono fun q h1 h2 => by unfold But at h2; omega⟩
  · have hb : (flowF c bf n != 0) = true := by simp [hf]
    have HL : Hid (blkF c bf n = [] ∧ idlF c bf n = []) := by unfold Hid; rw [blkF, idlF, if_neg hf, if_neg hf]; exact ⟨rfl, rfl⟩
    clear hf
    go_enter Tryz.func55, Tryz.ntmps55
    go_wp2_with fail
    refine HF.out.mono ?_
    rintro e w1 ⟨rfl, hc1⟩
    go_wp2_with fail
    go_ret3
    exact ⟨_, _, rfl, by rw [HL.out.1]; exact IsSl.nil _ _, by rw [HL.out.2]; exact IsSl.nil _ _, hc1⟩
end Go.Proofs.YtplphabekhaoaaaGreatDoor
namespace Go.Proofs.YtplphabekhaoaaaGreatDoor
open Go.RowKit
set_option linter.unusedVariables false
set_option linter.unusedSimpArgs false

def endT (c bf : List Int) (n : Nat) : Int := (pas c bf (n - 1) (c.length - 1)).left

theorem endT_bd {c bf : List Int} (hr : RightLine c bf) (m : Nat) (h : m ≤ 2000) : 0 < endT c bf m ∧ endT c bf m ≤ 100000000000 := by
 have hpos := hr.pos
 have hlen := hr.len
 have hb := pas_bd hr (m - 1) (c.length - 1) (by omega)
 have hc := hr.c1 (c.length - 1) (by omega)
 unfold endT
 omega

end Go.Proofs.YtplphabekhaoaaaGreatDoor
namespace Go.Proofs.YtplphabekhaoaaaGreatDoor
open Go.RowKit
set_option linter.unusedVariables false
set_option linter.unusedSimpArgs false
theorem lv_len (c b : List Int) (n : Nat) : (leaves c b n).length = n := by simp [leaves]
theorem lv_get {c b : List Int} {n q : Nat} (h : q < n) : (leaves c b n).getD q 0 = (pas c b q (c.length - 1)).left := by simp [leaves, h]
theorem maxF_in : ∀ (xs : List Int) (m : Int), (maxF m xs = m ∨ maxF m xs ∈ xs) ∧ m ≤ maxF m xs ∧ ∀ x ∈ xs, x ≤ maxF m xs
 | [], m => ⟨.inl rfl, Int.le_refl _, fun x h => by simp at h⟩
 | x :: r, m => by
  obtain ⟨h1, h2, h3⟩ := maxF_in r (max m x)
  rw [maxF]
  refine ⟨?_, by omega, fun y hy => ?_⟩
  ·rcases h1 with h1 | h1
   ·rw [h1]
    rcases (by omega : max m x = m ∨ max m x = x) with e | e
    ·exact .inl e
    ·rw [e]; exact .inr (by simp)
   ·exact .inr (by simp [h1])
  ·rcases List.mem_cons.1 hy with rfl | hy
   ·omega
   ·exact h3 y hy
theorem maxL_at {c : List Int} (h : 0 < c.length) : ∃ k, k < c.length ∧ at' c k = maxL c := by
 cases c with
 | nil => simp at h
 | cons x r =>
  rcases (maxF_in r x).1 with e | e
  ·exact ⟨0, h, by show x = maxF x r; rw [e]⟩
  ·obtain ⟨k, hk, e2⟩ := List.mem_iff_getElem.1 e
   exact ⟨k + 1, by simp; omega, by show at' (x :: r) (k + 1) = maxF x r; rw [← e2]; simp [at', hk]⟩
section
variable {c b : List Int} (h : RightLine c b)
include h
theorem lv_first {n : Nat} (hn : 1 ≤ n) : (leaves c b n).getD 0 0 = sumC c c.length := by
 have hp := h.pos
 rw [lv_get (by omega), (pas_zero h (c.length - 1) (by omega)).2, show c.length - 1 + 1 = c.length by omega]
theorem lv_step {n q : Nat} (hq : q + 1 < n) : (leaves c b n).getD q 0 + at' c (c.length - 1) ≤ (leaves c b n).getD (q + 1) 0 := by
 have hp := h.pos
 rw [lv_get (by omega), lv_get hq]
 exact pas_next h q (c.length - 1) (by omega)
theorem lv_slow {n q : Nat} (hq : q < n) : sumC c c.length + q * maxL c ≤ (leaves c b n).getD q 0 := by
 obtain ⟨k, hk, e⟩ := maxL_at h.pos
 rw [lv_get hq, ← e]
 exact pas_slow h q k hk
theorem lv_bd {n q : Nat} (hq : q < n) (hn : n ≤ 2000) : 0 < (leaves c b n).getD q 0 ∧ (leaves c b n).getD q 0 ≤ 100000000000 := by
 rw [lv_get hq]
 have := endT_bd h (q + 1) (by omega)
 exact this
theorem blk_zero (n : Nat) : (blkL c b n).getD (c.length - 1) 0 = 0 := by
 have hp := h.pos
 have e : (blkL c b n).getD (c.length - 1) 0 = sumTo (blkAt c b (c.length - 1)) n := by simp [blkL, show c.length - 1 < c.length by omega]
 rw [e]
 have := sumTo_bd (f := blkAt c b (c.length - 1)) (M := 0) n (fun j _ => by
  have := blk_last h j
  unfold blkAt
  omega)
 omega
theorem idl_zero (n : Nat) : (idlL c b n).getD 0 0 = 0 := by
 have hp := h.pos
 have e : (idlL c b n).getD 0 0 = sumTo (idlAt c b 0) n := by simp [idlL, hp]
 rw [e]
 have := sumTo_bd (f := idlAt c b 0) (M := 0) n (fun j _ => by
  unfold idlAt
  by_cases hj : j = 0
  ·rw [if_pos hj]; omega
  ·rw [if_neg hj]
   have := idl_first h (j - 1)
   rw [show j - 1 + 1 = j by omega] at this
   omega)
 omega
end
theorem lv_more {c b1 b2 : List Int} (h1 : RightLine c b1) (h2 : RightLine c b2) (hb : ∀ k, at' b1 k ≤ at' b2 k) {n q : Nat} (hq : q < n) : (leaves c b2 n).getD q 0 ≤ (leaves c b1 n).getD q 0 := by
 have hp := h1.pos
 rw [lv_get hq, lv_get hq]
 exact pas_le h1 h2 hb q (c.length - 1) (by omega)
theorem at_inc {b : List Int} {i : Nat} (hi : i < b.length) : ∀ k, at' b k ≤ at' (b.set i (b.getD i 0 + 1)) k := fun k => by
 unfold at'
 simp only [List.getD_eq_getElem?_getD, List.getElem?_set]
 split
 ·rename_i e; subst e; simp only [Option.getD_some]; omega
 ·omega
theorem sumC_bd {c : List Int} (h1 : ∀ k, k < c.length → 0 ≤ at' c k ∧ at' c k ≤ 10000000) : ∀ q, q ≤ c.length → 0 ≤ sumC c q ∧ sumC c q ≤ q * 10000000
 | 0, _ => by simp [sumC]
 | q + 1, hq => by
  have := sumC_bd h1 q (by omega)
  have := h1 q (by omega)
  rw [sumC]
  omega
end Go.Proofs.YtplphabekhaoaaaGreatDoor
namespace Go.Proofs.YtplphabekhaoaaaGreatDoor
open Go.RowKit
set_option linter.unusedVariables false
set_option linter.unusedSimpArgs false

theorem rf_BoardsFault_S {c b : List Int} {n : Int} : SpecN Tryz.prog 50 [avInts c, avInts b, avI n] (fun y => y = avI (flowF c b n)) := by
 intro w us ha
 obtain ⟨v1, v2, rfl, q1, q2⟩ := argsLLv ha
 refine (boardsFault_any v1 v2 c b n _ _ w (isSl_of_rep q1) (isSl_of_rep q2)).mono ?_
 rintro e w' ⟨rfl, hc⟩
 exact ⟨_, _, rfl, rfl, .v _, hc, trivial⟩
theorem line_T {p : Nat} {L : List Int} : SpecT Tryz.prog (TT p L) (fun b => b = p) 48 [sp p] 100020 (fun y => ∃ c b : List Int, (SmallL 4 c ∧ SmallL 4 b) ∧ y = .tup [avInts c, avInts b]) := by
 intro w A us k ha ⟨k', hk', hs⟩ hstr hk
 have hus : us = #[.pointer (some ⟨p, 0, none⟩)] := by
  obtain ⟨v1, rfl, q1⟩ := argsL ha
  rw [q1.eq_v]
 subst hus
 ·refine (line_any p L k' w hs (by omega)).mono ?_
  rintro e w' ⟨v1, v2, k2, rfl, c, b, h1, h2, h3, h4, h5, h6, h7⟩
  refine ⟨.tup [avInts c, avInts b], .tuple #[v1, v2], ⟨c, b, ⟨h3, h4⟩, rfl⟩, rfl, .tup _ _ rfl fun j hj => ?_, chgIs h7, ⟨k2, by omega, h5⟩⟩
  have key : ∀ {v : Value} {xs : List Int}, IsSl w' (fun j => w.heap.size ≤ j) v xs → Rep w' (fun b => b < w'.heap.size ∧ (b < w.heap.size → A b)) (avInts xs) v := fun {v xs} h => by
   have hr := rep_of_isSl h
   exact hr.keep fun b hb hl => ⟨rfl, hl, fun h0 => absurd h0 (Nat.not_lt.2 hb)⟩
  match j, hj with
  | 0, _ => exact key h1
  | 1, _ => exact key h2

end Go.Proofs.YtplphabekhaoaaaGreatDoor
namespace Go.Proofs.YtplphabekhaoaaaGreatDoor
open Go.RowKit
set_option linter.unusedVariables false
set_option linter.unusedSimpArgs false
theorem line_Blocked_S {c b : List Int} {n : Int} : SpecN Tryz.prog 55 [avInts c, avInts b, avI n] (fun y => y = .tup [avInts (blkF c b n), avInts (idlF c b n), avI (flowF c b n)]) := by
 intro w us ha
 obtain ⟨v1, v2, rfl, q1, q2⟩ := argsLLv ha
 refine (blocked_any v1 v2 c b n _ _ w (isSl_of_rep q1) (isSl_of_rep q2)).mono ?_
 rintro e w' ⟨v, z, rfl, hv, hz, hc⟩
 refine ⟨_, _, rfl, rfl, .tup _ _ rfl fun j hj => ?_, hc, trivial⟩
 match j, hj with
 | 0, _ => exact (rep_of_isSl hv).keep fun b hb hl => ⟨rfl, hl, fun h => absurd h (Nat.not_lt.2 hb)⟩
 | 1, _ => exact (rep_of_isSl hz).keep fun b hb hl => ⟨rfl, hl, fun h => absurd h (Nat.not_lt.2 hb)⟩
 | 2, _ => exact .v _
theorem SmallL.at_ {n : Nat} {xs : List Int} (h : SmallL n xs) (q : Nat) : -1 ≤ xs.getD q 0 ∧ xs.getD q 0 ≤ 10000001 := by
 rw [List.getD_eq_getElem?_getD]
 cases hx : xs[q]? with
 | none => simp
 | some x => exact h.2 x (List.mem_of_getElem? hx)
end Go.Proofs.YtplphabekhaoaaaGreatDoor
