/- Part 1 of a proof: the walks and laws that it needs. -/
import Derived.Test.YtplphabekhaoaaaGreatDoorZF4
namespace Go.Proofs.YtplphabekhaoaaaGreatDoor
open Go.RowKit
set_option linter.unusedVariables false
set_option linter.unusedSimpArgs false
set_option maxRecDepth 100000 in
theorem rl_errs {xs : List Int} (hl : xs.length ≤ 1000000000) :
  SpecN Tryz.prog 23 [avInts xs] (fun y => y = avI (errsF xs)) := by
 refine SpecN.of_VCN Tryz.func23 rfl Tryz.ntmps23 (Nle rfl) fun w A hB => ?_
 have hnew : True := trivial
 refine VC.sr ?_
 refine VO.ma rfl rfl rfl rfl ?_
 refine VO.nil ?_
 refine VC.seq ?_
 refine VC.sr ?_
 refine VO.mv rfl rfl rfl rfl ?_
 refine VO.val rfl rfl (OpV.len_im rfl Tryz.underlying130 rfl) ?_
 refine VO.mv rfl rfl rfl rfl ?_
 refine VO.nil ?_
 refine VC.block ?_
 refine VC.loopK [(5, _), (6, _)] ⟨rfl, rfl, trivial⟩ ({q : Nat // q ≤ xs.length ∧ ∀ j, j < q → xs.getD j 0 = 0}) (fun (iZ : {q : Nat // q ≤ xs.length ∧ ∀ j, j < q → xs.getD j 0 = 0}) => match iZ with | ⟨q, hq, hn⟩ => [(7, avI (q : Int))]) (fun (iZ : {q : Nat // q ≤ xs.length ∧ ∀ j, j < q → xs.getD j 0 = 0}) => match iZ with | ⟨q, hq, hn⟩ => []) (fun (iZ : {q : Nat // q ≤ xs.length ∧ ∀ j, j < q → xs.getD j 0 = 0}) => match iZ with | ⟨q, hq, hn⟩ => 0) (fun (iZ : {q : Nat // q ≤ xs.length ∧ ∀ j, j < q → xs.getD j 0 = 0}) => match iZ with | ⟨q, hq, hn⟩ => xs.length - q) ⟨0, Nat.zero_le _, fun j hj => absurd hj (Nat.not_lt_zero j)⟩ (Le.mk hB [] ⟨rfl, rfl, rfl, trivial⟩ rfl rfl (Nat.le_refl _)) ?_
 rintro ⟨q, hq, hn⟩
 show VC _ _ _ _ ⟨[(7, avI (q : Int))] ++ [(5, _), (6, _)], [], 0⟩
 refine VC.sr ?_
 refine VO.val rfl rfl (OpV.lss rfl rfl rfl) ?_
 refine VO.nil ?_
 refine VC.seq ?_
 refine VC.cond rfl (fun aH1b => ?_) (fun aH1b => ?_)
 ·have aH1 := aH1b
  try simp only [qqT, qqF, qqN, qqM, qqL, qqE] at aH1
  refine VC.skip ?_
  refine VC.seq ?_
  refine VC.block ?_
  refine VC.sr ?_
  refine VO.val rfl rfl (OpV.indexAddr_1 rfl Tryz.underlying130 Tryz.sizeOf38 rfl rfl rfl (by omega)) ?_
  refine VO.val rfl rfl (OpV.load_at rfl hB OutW.no Tryz.isAgg38 rfl rfl) ?_
  refine VO.ma rfl rfl rfl rfl ?_
  refine VO.nil ?_
  refine VC.sr ?_
  refine VO.mv rfl rfl rfl rfl ?_
  refine VO.val rfl rfl (OpV.neq rfl rfl rfl) ?_
  refine VO.nil ?_
  refine VC.cond rfl (fun h1b => ?_) (fun h1b => ?_)
  ·have h1 := h1b
   try simp only [qqT, qqF, qqN, qqM, qqL, qqE] at h1
   refine VC.sr ?_
   refine VO.mv rfl rfl rfl rfl ?_
   refine VO.ma rfl rfl rfl rfl ?_
   refine VO.nil ?_
   refine VC.ret ?_
   exact Exists.intro _ (And.intro (RetN.one Tryz.results23 (ResN.v rfl)) (by rw [errsF_at (q := q) (by omega) hn h1]))
  ·have h1 := h1b
   try simp only [qqT, qqF, qqN, qqM, qqL, qqE] at h1
   refine VC.skip ?_
   refine VC.region ?_
   refine VO.val rfl rfl (OpV.add rfl rfl rfl (by unfold fits; omega)) ?_
   refine VO.mv rfl rfl rfl rfl ?_
   refine VO.nil ?_
   exact Exists.intro (⟨q + 1, by omega, lt_succ_cases hn ((by omega))⟩) (And.intro (Le.mk hB [] ⟨rfl, rfl, rfl, trivial⟩ rfl rfl (Nat.le_refl _)) (by first | omega | (show _ < _; omega) | (simp only []; omega)))
 ·have aH1 := aH1b
  try simp only [qqT, qqF, qqN, qqM, qqL, qqE] at aH1
  refine VC.exit ?_
  refine VC.sr ?_
  refine VO.ma rfl rfl rfl rfl ?_
  refine VO.nil ?_
  refine VC.ret ?_
  exact Exists.intro _ (And.intro (RetN.one Tryz.results23 (ResN.v rfl)) (by rw [errsF_none (fun j hj => hn j (by omega))]))
set_option maxRecDepth 100000 in
theorem rl_planned   :
  SpecN Tryz.prog 29 [] (fun y => y = avB true) := by
 refine SpecN.of_VCN Tryz.func29 rfl Tryz.ntmps29 (Nle rfl) fun w A hB => ?_
 have hnew : True := trivial
 refine VC.sr ?_
 refine VO.ma rfl rfl rfl rfl ?_
 refine VO.nil ?_
 refine VC.sr ?_
 refine VO.val rfl rfl (OpV.build (pls := #[(0, 1), (1, 1), (2, 1)]) rfl Tryz.zeroValue60 Tryz.underlying60 (fun w => by kernel_rfl) rfl rfl) ?_
 refine VO.le _ (Le.recast (t := 4) (y := avPc ⟨⟨#[112]⟩, 10, []⟩) rfl (fun w Z u h => pace_nil h)) ?_
 refine VO.op rfl (OpE.buildSlice (zc := #[.string ⟨#[]⟩, .int .i64 0, .slice none 0 0]) rfl hB rfl Tryz.underlying26 Tryz.sizeOf60 Tryz.zeroValue60 (by decide) (by decide) (by kernel_rfl) rfl rfl ?_)
 refine VO.le _ (Le.recast (t := 5) (y := avL rdP) rfl (fun w Z u h => Rep.rowL (xs := rdP) rfl h)) ?_
 refine VO.val rfl rfl (OpV.build (pls := #[(0, 1), (1, 1), (2, 1), (3, 1), (4, 1)]) rfl Tryz.zeroValue35 Tryz.underlying35 (fun w => by kernel_rfl) rfl rfl) ?_
 refine VO.op rfl (OpE.buildSlice (zc := #[.string ⟨#[]⟩, .string ⟨#[]⟩, .int .i64 0, .int .i64 0, .int .i64 0]) rfl hB rfl Tryz.underlying28 Tryz.sizeOf35 Tryz.zeroValue35 (by decide) (by decide) (by kernel_rfl) rfl rfl ?_)
 refine VO.le _ (Le.recast (t := 7) (y := avL rdO) rfl (fun w Z u h => Rep.rowL (xs := rdO) rfl h)) ?_
 refine VO.op rfl (OpE.buildSlice (zc := #[.int .i64 0]) rfl hB rfl Tryz.underlying22 Tryz.sizeOf3 Tryz.zeroValue3 (by decide) (by decide) (by kernel_rfl) rfl rfl ?_)
 refine VO.le _ (Le.lits (t := 8) (xs := [0]) rfl rfl) ?_
 refine VO.op rfl (OpE.call rfl hB rfl Tryz.call33 rfl (SpecN.spec (plan_Times rdP_sm rdO_sm (by decide))) ?_)
 rintro _ rfl
 refine VO.le _ (Le.recast (t := 9) (y := .tup [avL ([⟨1, 31⟩] : List WinS), avI 0]) rfl (fun w Z u h => by rw [rd_times, rd_sch] at h; exact h)) ?_
 refine VO.mv rfl rfl rfl rfl ?_
 refine VO.val rfl rfl (OpV.extract rfl rfl rfl) ?_
 refine VO.val rfl rfl (OpV.extract rfl rfl rfl) ?_
 refine VO.ma rfl rfl rfl rfl ?_
 refine VO.ma rfl rfl rfl rfl ?_
 refine VO.nil ?_
 refine VC.sr ?_
 refine VO.mv rfl rfl rfl rfl ?_
 refine VO.val rfl rfl (OpV.eql rfl rfl rfl) ?_
 refine VO.le _ (Le.boolT (t := 13) rfl (decide_eq_true rfl)) ?_
 refine VO.mv rfl rfl rfl rfl ?_
 refine VO.opY rfl rfl rfl rfl rfl ?_
 refine OpE.val (W := NoB) (OpV.move (.inl rfl) rfl) rfl ?_
 refine VO.opY rfl rfl rfl rfl rfl ?_
 refine OpE.val (W := NoB) (OpV.len_im rfl Tryz.underlying53 rfl) rfl ?_
 refine VO.opY rfl rfl rfl rfl rfl ?_
 refine OpE.val (W := NoB) (OpV.eql rfl rfl rfl) rfl ?_
 refine VO.le _ (Le.boolT (t := 17) rfl (decide_eq_true rfl)) ?_
 refine VO.val rfl rfl (OpV.pickT rfl rfl rfl rfl rfl) ?_
 refine VO.mv rfl rfl rfl rfl ?_
 refine VO.opY rfl rfl rfl rfl rfl ?_
 refine OpE.val (W := NoB) (OpV.move (.inl rfl) rfl) rfl ?_
 refine VO.opY rfl rfl rfl rfl rfl ?_
 refine OpE.val (W := NoB) (OpV.indexAddr_E rfl Tryz.underlying53 Tryz.sizeOf72 rfl rfl rfl (by show 0 < 1; decide)) rfl ?_
 refine VO.opY rfl rfl rfl rfl rfl ?_
 refine OpE.val (W := NoB) (OpV.fieldAddr_atO 1 rfl Tryz.underlying72 rfl rfl Tryz.sizeOf3 rfl rfl) rfl ?_
 refine VO.opY rfl rfl rfl rfl rfl ?_
 refine OpE.val (W := NoB) (OpV.load_at rfl hB OutW.no Tryz.isAgg3 rfl rfl) rfl ?_
 refine VO.opY rfl rfl rfl rfl rfl ?_
 refine OpE.val (W := NoB) (OpV.eql rfl rfl rfl) rfl ?_
 refine VO.le _ (Le.boolT (t := 24) rfl (decide_eq_true rfl)) ?_
 refine VO.val rfl rfl (OpV.pickT rfl rfl rfl rfl rfl) ?_
 refine VO.ma rfl rfl rfl rfl ?_
 refine VO.nil ?_
 refine VC.ret ?_
 exact Exists.intro _ (And.intro (RetN.one Tryz.results29 (ResN.v rfl)) (rfl))
def eqWn (x y : WinS) : Bool := decide (x.fr = y.fr) && (decide (x.to = y.to) && true)
theorem eqWn_self (x : WinS) : eqWn x x = true := by simp [eqWn]
set_option maxRecDepth 100000 in
theorem slices_Equal_win {xs ys : List WinS} (hl : xs.length ≤ 1000000000) (hl' : ys.length ≤ 1000000000) :
  SpecN Tryz.prog 42 [avL xs, avL ys] (fun y => y = avB (eqLs eqWn xs ys)) := by
 refine SpecN.of_VCN Tryz.func42 rfl Tryz.ntmps42 (Nle rfl) fun w A hB => ?_
 have hnew : True := trivial
 refine VC.sr ?_
 refine VO.ma rfl rfl rfl rfl ?_
 refine VO.nil ?_
 refine VC.seq ?_
 refine VC.sr ?_
 refine VO.mv rfl rfl rfl rfl ?_
 refine VO.val rfl rfl (OpV.len_im rfl Tryz.underlying53 rfl) ?_
 refine VO.mv rfl rfl rfl rfl ?_
 refine VO.val rfl rfl (OpV.len_im rfl Tryz.underlying53 rfl) ?_
 refine VO.val rfl rfl (OpV.neq rfl rfl rfl) ?_
 refine VO.nil ?_
 refine VC.cond rfl (fun aH1b => ?_) (fun aH1b => ?_)
 ·have aH1 := aH1b
  try simp only [qqT, qqF, qqN, qqM, qqL, qqE] at aH1
  refine VC.sr ?_
  refine VO.ma rfl rfl rfl rfl ?_
  refine VO.nil ?_
  refine VC.ret ?_
  exact Exists.intro _ (And.intro (RetN.one Tryz.results42 (ResN.v rfl)) (by first | rw [eqLs_len (by omega)] | rw [eqLs_at (d := default) (q := q) (by omega) (not_true_false h2b)] | rw [eqLs_all (d := default) (by omega) (fun j hj => hn j (by omega))]))
 ·have aH1 := aH1b
  try simp only [qqT, qqF, qqN, qqM, qqL, qqE] at aH1
  refine VC.skip ?_
  refine VC.seq ?_
  refine VC.sr ?_
  refine VO.mv rfl rfl rfl rfl ?_
  refine VO.val rfl rfl (OpV.len_im rfl Tryz.underlying53 rfl) ?_
  refine VO.mv rfl rfl rfl rfl ?_
  refine VO.nil ?_
  refine VC.block ?_
  refine VC.loopK [(0, _), (1, _), (12, _)] ⟨rfl, rfl, rfl, trivial⟩ ({q : Nat // q ≤ xs.length ∧ ∀ j, j < q → eqWn (xs.getD j default) (ys.getD j default) = true}) (fun (iZ : {q : Nat // q ≤ xs.length ∧ ∀ j, j < q → eqWn (xs.getD j default) (ys.getD j default) = true}) => match iZ with | ⟨q, hq, hn⟩ => [(13, avI (q : Int))]) (fun (iZ : {q : Nat // q ≤ xs.length ∧ ∀ j, j < q → eqWn (xs.getD j default) (ys.getD j default) = true}) => match iZ with | ⟨q, hq, hn⟩ => []) (fun (iZ : {q : Nat // q ≤ xs.length ∧ ∀ j, j < q → eqWn (xs.getD j default) (ys.getD j default) = true}) => match iZ with | ⟨q, hq, hn⟩ => 0) (fun (iZ : {q : Nat // q ≤ xs.length ∧ ∀ j, j < q → eqWn (xs.getD j default) (ys.getD j default) = true}) => match iZ with | ⟨q, hq, hn⟩ => xs.length - q) ⟨0, Nat.zero_le _, fun j hj => absurd hj (Nat.not_lt_zero j)⟩ (Le.mk hB [] ⟨rfl, rfl, rfl, rfl, trivial⟩ rfl rfl (Nat.le_refl _)) ?_
  rintro ⟨q, hq, hn⟩
  show VC _ _ _ _ ⟨[(13, avI (q : Int))] ++ [(0, _), (1, _), (12, _)], [], 0⟩
  refine VC.sr ?_
  refine VO.val rfl rfl (OpV.lss rfl rfl rfl) ?_
  refine VO.nil ?_
  refine VC.seq ?_
  refine VC.cond rfl (fun aH2b => ?_) (fun aH2b => ?_)
  ·have aH2 := aH2b
   try simp only [qqT, qqF, qqN, qqM, qqL, qqE] at aH2
   refine VC.skip ?_
   refine VC.seq ?_
   refine VC.block ?_
   refine VC.sr ?_
   refine VO.mv rfl rfl rfl rfl ?_
   refine VO.ma rfl rfl rfl rfl ?_
   refine VO.nil ?_
   refine VC.seq ?_
   refine VC.draw (fun _ => NoB) hB (by kernel_rfl) ?_
   refine VA.take (i := 0) rfl (by kernel_rfl) (by kernel_rfl) (by kernel_rfl) rfl rfl (OpV.move (.inl rfl) rfl) ?_
   refine VA.take (i := 1) rfl (by kernel_rfl) (by kernel_rfl) (by kernel_rfl) rfl rfl (OpV.move (.inl rfl) rfl) ?_
   refine VA.take (i := 2) rfl (by kernel_rfl) (by kernel_rfl) (by kernel_rfl) rfl rfl (OpV.indexAddr_E rfl Tryz.underlying53 Tryz.sizeOf72 rfl rfl rfl (by omega)) ?_
   refine VA.take (i := 3) rfl (by kernel_rfl) (by kernel_rfl) (by kernel_rfl) rfl rfl (OpV.loadK_at rfl hB OutW.wi0 Tryz.isAgg72 Tryz.sizeOf72 rfl rfl) ?_
   refine VA.take (i := 4) rfl (by kernel_rfl) (by kernel_rfl) (by kernel_rfl) rfl rfl (OpV.move (.inl rfl) rfl) ?_
   refine VA.take (i := 5) rfl (by kernel_rfl) (by kernel_rfl) (by kernel_rfl) rfl rfl (OpV.move (.inl rfl) rfl) ?_
   refine VA.take (i := 6) rfl (by kernel_rfl) (by kernel_rfl) (by kernel_rfl) rfl rfl (OpV.indexAddr_E rfl Tryz.underlying53 Tryz.sizeOf72 rfl rfl rfl (by omega)) ?_
   refine VA.take (i := 7) rfl (by kernel_rfl) (by kernel_rfl) (by kernel_rfl) rfl rfl (OpV.loadK_at rfl hB OutW.wi0 Tryz.isAgg72 Tryz.sizeOf72 rfl rfl) ?_
   refine VA.take (i := 8) rfl (by kernel_rfl) (by kernel_rfl) (by kernel_rfl) rfl rfl (OpV.aneq rfl Tryz.underlying72 (by kernel_rfl) (by kernel_rfl) rfl rfl (EqFs.int Tryz.underlying3 Tryz.isAgg3 rfl (by decide) (EqFs.int Tryz.underlying3 Tryz.isAgg3 rfl (by decide) (EqFs.nil _)))) ?_
   refine VA.done (by kernel_rfl) ?_
   refine VC.cond rfl (fun h2b => ?_) (fun h2b => ?_)
   ·have h2 := h2b
    try simp only [qqT, qqF, qqN, qqM, qqL, qqE] at h2
    refine VC.sr ?_
    refine VO.ma rfl rfl rfl rfl ?_
    refine VO.nil ?_
    refine VC.ret ?_
    exact Exists.intro _ (And.intro (RetN.one Tryz.results42 (ResN.v rfl)) (by first | rw [eqLs_len (by omega)] | rw [eqLs_at (d := default) (q := q) (by omega) (not_true_false h2b)] | rw [eqLs_all (d := default) (by omega) (fun j hj => hn j (by omega))]))
   ·have h2 := h2b
    try simp only [qqT, qqF, qqN, qqM, qqL, qqE] at h2
    refine VC.skip ?_
    refine VC.region ?_
    refine VO.val rfl rfl (OpV.add rfl rfl rfl (by unfold fits; omega)) ?_
    refine VO.mv rfl rfl rfl rfl ?_
    refine VO.nil ?_
    exact Exists.intro (⟨q + 1, by omega, lt_succ_cases hn (not_false_true h2b)⟩) (And.intro (Le.mk hB [] ⟨rfl, rfl, rfl, rfl, trivial⟩ rfl rfl (Nat.le_refl _)) (by first | omega | (show _ < _; omega) | (simp only []; omega)))
  ·have aH2 := aH2b
   try simp only [qqT, qqF, qqN, qqM, qqL, qqE] at aH2
   refine VC.exit ?_
   refine VC.sr ?_
   refine VO.ma rfl rfl rfl rfl ?_
   refine VO.nil ?_
   refine VC.ret ?_
   exact Exists.intro _ (And.intro (RetN.one Tryz.results42 (ResN.v rfl)) (by first | rw [eqLs_len (by omega)] | rw [eqLs_at (d := default) (q := q) (by omega) (not_true_false h2b)] | rw [eqLs_all (d := default) (by omega) (fun j hj => hn j (by omega))]))
def oneE (p : List PaceS) (a b : ByteArray) (each : Int) : Int := errsF [paceF p, if outR each 0 10000000 = true then 1 else 0, if (hasP p a && hasP p b) = true then 0 else 8]
theorem oneE_eq (p : List PaceS) (a b : ByteArray) (each : Int) : oneE p a b each = chgE p a b each := by
 unfold oneE chgE errsF
 by_cases h1 : paceF p = 0
 ·by_cases h2 : outR each 0 10000000 = true
  ·simp [h1, h2]
  ·by_cases h3 : (hasP p a && hasP p b) = true
   ·simp [h1, h2, h3]
   ·simp [h1, h2, h3]
 ·simp [h1]
theorem twoE_eq (p : List PaceS) (o : List OrdrS) (l : List Int) (s e : Int) : errsF [bothF p o, schF o.length l, startF s e] = scheF p o l s e := by
 unfold scheF errsF
 by_cases h1 : bothF p o = 0
 ·by_cases h2 : schF o.length l = 0
  ·by_cases h3 : startF s e = 0 <;> simp [h1, h2, h3]
  ·simp [h1, h2]
 ·simp [h1]
theorem chgE_zero {p : List PaceS} {a b : ByteArray} {each : Int} (h : chgE p a b each = 0) : 0 ≤ each ∧ each ≤ 10000000 := by
 unfold chgE at h
 split at h
 ·contradiction
 ·split at h
  ·cases h
  ·rename_i h1 h2
   exact outR_f (by simpa using h2)
theorem sched_ok {p : List PaceS} {o : List OrdrS} {l : List Int} {s e : Int} (h : scheF p o l s e = 0) : timesR p o l s e = timesQ p o l s e l.length ∧ lateR p o l s e = (resP p o l s e l.length).late ∧ manyR p o l s e = (resP p o l s e l.length).many := ⟨by rw [timesR, if_pos h], by rw [lateR, if_pos h], by rw [manyR, if_pos h]⟩
theorem sched_no {p : List PaceS} {o : List OrdrS} {l : List Int} {s e : Int} (h : ¬ scheF p o l s e = 0) : timesR p o l s e = [] ∧ lateR p o l s e = 0 ∧ manyR p o l s e = 0 := ⟨by rw [timesR, if_neg h], by rw [lateR, if_neg h], by rw [manyR, if_neg h]⟩
theorem timesR_len (p : List PaceS) (o : List OrdrS) (l : List Int) (s e : Int) : (timesR p o l s e).length ≤ o.length := by
 unfold timesR
 split
 ·rw [timesQ_len]; exact Nat.le_refl _
 ·simp
set_option maxRecDepth 100000 in
theorem rl_when {b : Bool} {e : Int}  :
  SpecN Tryz.prog 37 [avB b, avI e] (fun y => y = avI (if b = true then e else 0)) := by
 refine SpecN.of_VCN Tryz.func37 rfl Tryz.ntmps37 (Nle rfl) fun w A hB => ?_
 have hnew : True := trivial
 refine VC.sr ?_
 refine VO.ma rfl rfl rfl rfl ?_
 refine VO.nil ?_
 refine VC.seq ?_
 refine VC.sr ?_
 refine VO.mv rfl rfl rfl rfl ?_
 refine VO.nil ?_
 refine VC.cond rfl (fun aH1b => ?_) (fun aH1b => ?_)
 ·have aH1 := aH1b
  try simp only [qqT, qqF, qqN, qqM, qqL, qqE] at aH1
  refine VC.sr ?_
  refine VO.mv rfl rfl rfl rfl ?_
  refine VO.ma rfl rfl rfl rfl ?_
  refine VO.nil ?_
  refine VC.ret ?_
  exact Exists.intro _ (And.intro (RetN.one Tryz.results37 (ResN.v rfl)) (by simp_all))
 ·have aH1 := aH1b
  try simp only [qqT, qqF, qqN, qqM, qqL, qqE] at aH1
  refine VC.skip ?_
  refine VC.sr ?_
  refine VO.ma rfl rfl rfl rfl ?_
  refine VO.nil ?_
  refine VC.ret ?_
  exact Exists.intro _ (And.intro (RetN.one Tryz.results37 (ResN.v rfl)) (by simp_all))
set_option maxRecDepth 100000 in
set_option maxHeartbeats 40000000 in
theorem timed_any (a0 : Option Addr) (cap0 : Nat) (L : List Int) (w : World) (hin : Inp w a0 L) :
  Calls Tryz.prog 4 #[.slice a0 L.length cap0] w fun e w' => e = .returned (.bool true) ∧ Chg NoB w w' := by
 refine law_calls Tryz.func4 rfl Tryz.ntmps4 (Nle rfl) Tryz.results4 ?_
 have hB := B0.ok w (fun _ => True) 179
 have hnew : True := trivial
 refine VC.sr ?_
 refine VO.ma rfl rfl rfl rfl ?_
 refine VO.nil ?_
 refine VC.sr ?_
 refine VO.mv rfl rfl rfl rfl ?_
 refine VO.val rfl rfl (OpV.build (pls := #[(0, 1), (1, 1)]) rfl Tryz.zeroValue25 Tryz.underlying25 (fun w => by kernel_rfl) rfl rfl) ?_
 refine VO.op rfl (OpE.box rfl hB rfl rfl rfl ?_)
 intro g
 refine VO.ma rfl rfl rfl rfl ?_
 refine VO.nil ?_
 refine VC.stream (i := 0) (sl := [(3, sp g)]) (by exact rfl) (by exact rfl) hin (by exact ⟨rfl, trivial⟩) (fun p hp => by simp at hp; subst hp; exact ⟨_, rfl⟩) (fun w1 hge hB => ?_)
 refine VC.sr ?_
 refine VO.mv rfl rfl rfl rfl ?_
 refine VO.op rfl (OpE.callT' (0) rfl rfl hB rfl Tryz.call14 rfl (paces_T) (by omega) ?_)
 rintro _ ⟨p, hp, rfl⟩
 refine VO.mv rfl rfl rfl rfl ?_
 refine VO.op rfl (OpE.callT' (0 + 100) rfl rfl hB rfl Tryz.call15 rfl (orders_M (m := 5) (by decide)) (by omega) ?_)
 rintro _ ⟨o, ho, rfl⟩
 refine VO.ma rfl rfl rfl rfl ?_
 refine VO.ma rfl rfl rfl rfl ?_
 refine VO.nil ?_
 refine VC.sr ?_
 refine VO.mv rfl rfl rfl rfl ?_
 refine VO.mv rfl rfl rfl rfl ?_
 refine VO.val rfl rfl (OpV.len_im rfl Tryz.underlying28 rfl) ?_
 refine VO.op rfl (OpE.callT' (0 + 100 + 100) rfl rfl hB rfl Tryz.call30 rfl (anOrder_T (n := o.length) (by omega)) (by omega) ?_)
 rintro _ ⟨l, hl, rfl⟩
 refine VO.mv rfl rfl rfl rfl ?_
 refine VO.op rfl (OpE.buildSlice (zc := #[.int .i64 0, .int .i64 0, .int .i64 0, .int .i64 0, .int .i64 0, .int .i64 0]) rfl hB rfl Tryz.underlying22 Tryz.sizeOf3 Tryz.zeroValue3 (by decide) (by decide) (by kernel_rfl) rfl rfl ?_)
 refine VO.op rfl (OpE.callT' (0 + 100 + 100 + 40) rfl rfl hB rfl Tryz.call20 rfl (pick_X (by rfl) (by decide) (by decide) (by repeat (first | exact AllX.nil | refine AllX.cons ?_))) (by omega) ?_)
 rintro _ ⟨r41, rfl⟩
 refine VO.mv rfl rfl rfl rfl ?_
 refine VO.op rfl (OpE.buildSlice (zc := #[.int .i64 0, .int .i64 0, .int .i64 0, .int .i64 0, .int .i64 0]) rfl hB rfl Tryz.underlying22 Tryz.sizeOf3 Tryz.zeroValue3 (by decide) (by decide) (by kernel_rfl) rfl rfl ?_)
 refine VO.op rfl (OpE.callT' (0 + 100 + 100 + 40 + 1) rfl rfl hB rfl Tryz.call20 rfl (pick_X (by rfl) (by decide) (by decide) (by repeat (first | exact AllX.nil | refine AllX.cons ?_))) (by omega) ?_)
 rintro _ ⟨r44, rfl⟩
 refine VO.mv rfl rfl rfl rfl ?_
 refine VO.op rfl (OpE.buildSlice (zc := #[.string ⟨#[]⟩, .string ⟨#[]⟩, .string ⟨#[]⟩]) rfl hB rfl Tryz.underlying94 Tryz.sizeOf9 Tryz.zeroValue9 (by decide) (by decide) (by kernel_rfl) rfl rfl ?_)
 refine VO.op rfl (OpE.callT' (0 + 100 + 100 + 40 + 1 + 1) rfl rfl hB rfl Tryz.call31 rfl ((some_T 1000 (by rfl) (by decide) (by decide) (by repeat (first | exact AllS.nil | refine AllS.cons (by first | decide | omega) ?_)))) (by omega) ?_)
 rintro _ ⟨r47, hr47, rfl⟩
 refine VO.mv rfl rfl rfl rfl ?_
 refine VO.op rfl (OpE.buildSlice (zc := #[.string ⟨#[]⟩, .string ⟨#[]⟩, .string ⟨#[]⟩]) rfl hB rfl Tryz.underlying94 Tryz.sizeOf9 Tryz.zeroValue9 (by decide) (by decide) (by kernel_rfl) rfl rfl ?_)
 refine VO.op rfl (OpE.callT' (0 + 100 + 100 + 40 + 1 + 1 + 1) rfl rfl hB rfl Tryz.call31 rfl ((some_T 1000 (by rfl) (by decide) (by decide) (by repeat (first | exact AllS.nil | refine AllS.cons (by first | decide | omega) ?_)))) (by omega) ?_)
 rintro _ ⟨r50, hr50, rfl⟩
 refine VO.ma rfl rfl rfl rfl ?_
 refine VO.ma rfl rfl rfl rfl ?_
 refine VO.ma rfl rfl rfl rfl ?_
 refine VO.ma rfl rfl rfl rfl ?_
 refine VO.ma rfl rfl rfl rfl ?_
 refine VO.nil ?_
 refine VC.seq ?_
 have hps := PcOk.sm hp.2 (by omega)
 have hos := ho.2.sm (by omega)
 have hpl := hps.len
 have hol := ho.1
 refine VC.le ⟨[(3, _), (4, _), (5, _), (6, _), (7, _), (8, _), (9, _), (10, _)], [], 0 + 100 + 100 + 40 + 1 + 1 + 1 + 1⟩ (Le.mk hB [] ⟨rfl, rfl, rfl, rfl, rfl, rfl, rfl, rfl, trivial⟩ rfl rfl (Nat.le_refl _)) ?_
 refine VC.region ?_
 refine VO.mv rfl rfl rfl rfl ?_
 refine VO.mv rfl rfl rfl rfl ?_
 refine VO.mv rfl rfl rfl rfl ?_
 refine VO.mv rfl rfl rfl rfl ?_
 refine VO.op rfl (OpE.call rfl hB rfl Tryz.call32 rfl (SpecN.spec (plan_Changeover hps)) ?_)
 rintro _ rfl
 refine VO.mv rfl rfl rfl rfl ?_
 refine VO.val rfl rfl (OpV.extract rfl rfl rfl) ?_
 refine VO.val rfl rfl (OpV.extract rfl rfl rfl) ?_
 refine VO.ma rfl rfl rfl rfl ?_
 refine VO.ma rfl rfl rfl rfl ?_
 refine VO.nil ?_
 refine VC.sr ?_
 refine VO.mv rfl rfl rfl rfl ?_
 refine VO.mv rfl rfl rfl rfl ?_
 refine VO.mv rfl rfl rfl rfl ?_
 refine VO.mv rfl rfl rfl rfl ?_
 refine VO.mv rfl rfl rfl rfl ?_
 refine VO.op rfl (OpE.call rfl hB rfl Tryz.call33 rfl (SpecN.spec (plan_Times hps hos (by omega))) ?_)
 rintro _ rfl
 refine VO.mv rfl rfl rfl rfl ?_
 refine VO.val rfl rfl (OpV.extract rfl rfl rfl) ?_
 refine VO.val rfl rfl (OpV.extract rfl rfl rfl) ?_
 refine VO.ma rfl rfl rfl rfl ?_
 refine VO.ma rfl rfl rfl rfl ?_
 refine VO.nil ?_
 refine VC.sr ?_
 refine VO.mv rfl rfl rfl rfl ?_
 refine VO.mv rfl rfl rfl rfl ?_
 refine VO.mv rfl rfl rfl rfl ?_
 refine VO.mv rfl rfl rfl rfl ?_
 refine VO.mv rfl rfl rfl rfl ?_
 refine VO.op rfl (OpE.call rfl hB rfl Tryz.call34 rfl (SpecN.spec (plan_Late hps hos (by omega))) ?_)
 rintro _ rfl
 refine VO.mv rfl rfl rfl rfl ?_
 refine VO.val rfl rfl (OpV.extract rfl rfl rfl) ?_
 refine VO.val rfl rfl (OpV.extract rfl rfl rfl) ?_
 refine VO.val rfl rfl (OpV.extract rfl rfl rfl) ?_
 refine VO.ma rfl rfl rfl rfl ?_
 refine VO.ma rfl rfl rfl rfl ?_
 refine VO.ma rfl rfl rfl rfl ?_
 refine VO.nil ?_
 refine VC.sr ?_
 refine VO.mv rfl rfl rfl rfl ?_
 refine VO.mv rfl rfl rfl rfl ?_
 refine VO.op rfl (OpE.call rfl hB rfl Tryz.call35 rfl (rf_PaceOf (by omega)) ?_)
 rintro _ rfl
 refine VO.mv rfl rfl rfl rfl ?_
 refine VO.val rfl rfl (OpV.extract rfl rfl rfl) ?_
 refine VO.val rfl rfl (OpV.extract rfl rfl rfl) ?_
 refine VO.op rfl (OpE.alloc rfl hB rfl Tryz.zeroValue60 rfl ?_)
 intro g18
 refine VO.op rfl (OpE.store (i := 0) rfl hB rfl Tryz.sizeOf60 rfl rfl rfl rfl rfl rfl (Nle rfl) trivial ?_)
 refine VO.ma rfl rfl rfl rfl ?_
 refine VO.nil ?_
 refine VC.sr ?_
 refine VO.mv rfl rfl rfl rfl ?_
 refine VO.mv rfl rfl rfl rfl ?_
 refine VO.op rfl (OpE.call rfl hB rfl Tryz.call35 rfl ((rf_PaceOf (by omega))) ?_)
 rintro _ rfl
 refine VO.mv rfl rfl rfl rfl ?_
 refine VO.val rfl rfl (OpV.extract rfl rfl rfl) ?_
 refine VO.val rfl rfl (OpV.extract rfl rfl rfl) ?_
 refine VO.op rfl (OpE.alloc rfl hB rfl Tryz.zeroValue60 rfl ?_)
 intro g20
 refine VO.op rfl (OpE.store (i := 1) rfl hB rfl Tryz.sizeOf60 rfl rfl rfl rfl rfl rfl (Nle rfl) trivial ?_)
 refine VO.ma rfl rfl rfl rfl ?_
 refine VO.nil ?_
 refine VC.sr ?_
 refine VO.mv rfl rfl rfl rfl ?_
 refine VO.op rfl (OpE.call rfl hB rfl Tryz.call36 rfl (SpecN.spec (rf_PacesFault hps)) ?_)
 rintro _ rfl
 refine VO.mv rfl rfl rfl rfl ?_
 refine VO.val rfl rfl (OpV.lss rfl rfl rfl) ?_
 refine VO.mv rfl rfl rfl rfl ?_
 refine VO.opG rfl rfl rfl rfl (fun aK1b => ?_) (fun aK1b => ?_)
 ·replace aK1b : _ = false := aK1b
  have aK1 := aK1b
  try simp only [qqT, qqF, qqN, qqM, qqL, qqE] at aK1
  refine OpE.val (W := NoB) (OpV.move (.inl rfl) rfl) rfl ?_
  refine VO.opY rfl rfl rfl rfl aK1b ?_
  refine OpE.val (W := NoB) (OpV.gtr rfl rfl rfl) rfl ?_
  refine VO.val rfl rfl (OpV.pickF rfl rfl rfl rfl aK1b) ?_
  refine VO.op rfl (OpE.call rfl hB rfl Tryz.call37 rfl (SpecN.spec (rl_when)) ?_)
  rintro _ rfl
  refine VO.le _ (Le.recast (t := 98) (y := avI (if outR r44 0 10000000 = true then 1 else 0)) rfl (fun w Z u h => by simpa [outR, *] using h)) ?_
  refine VO.mv rfl rfl rfl rfl ?_
  refine VO.val rfl rfl (OpV.not rfl rfl) ?_
  refine VO.mv rfl rfl rfl rfl ?_
  refine VO.opG rfl rfl rfl rfl (fun aK2b => ?_) (fun aK2b => ?_)
  ·replace aK2b : _ = false := aK2b
   have aK2 := aK2b
   try simp only [qqT, qqF, qqN, qqM, qqL, qqE] at aK2
   refine OpE.val (W := NoB) (OpV.move (.inl rfl) rfl) rfl ?_
   refine VO.opY rfl rfl rfl rfl aK2b ?_
   refine OpE.val (W := NoB) (OpV.not rfl rfl) rfl ?_
   refine VO.val rfl rfl (OpV.pickF rfl rfl rfl rfl aK2b) ?_
   refine VO.op rfl (OpE.call rfl hB rfl Tryz.call37 rfl (SpecN.spec (rl_when)) ?_)
   rintro _ rfl
   refine VO.le _ (Le.recast (t := 105) (y := avI (if (hasP p r47 && hasP p r50) = true then 0 else 8)) rfl (fun w Z u h => by cases h1 : hasP p r47 <;> cases h2 : hasP p r50 <;> simp_all)) ?_
   refine VO.op rfl (OpE.buildSlice (zc := #[.int .i64 0, .int .i64 0, .int .i64 0]) rfl hB rfl Tryz.underlying130 Tryz.sizeOf38 Tryz.zeroValue38 (by decide) (by decide) (by kernel_rfl) rfl rfl ?_)
   refine VO.le _ (Le.lits (t := 106) (xs := [paceF p, if outR r44 0 10000000 = true then 1 else 0, if (hasP p r47 && hasP p r50) = true then 0 else 8]) rfl rfl) ?_
   refine VO.op rfl (OpE.call rfl hB rfl Tryz.call23 rfl (SpecN.spec (rl_errs (by simp))) ?_)
   rintro _ rfl
   refine VO.le _ (Le.recast (t := 107) (y := avI (chgE p r47 r50 r44)) rfl (fun w Z u h => by rw [← oneE_eq]; exact h)) ?_
   refine VO.ma rfl rfl rfl rfl ?_
   refine VO.nil ?_
   refine VC.sr ?_
   refine VO.mv rfl rfl rfl rfl ?_
   refine VO.mv rfl rfl rfl rfl ?_
   refine VO.op rfl (OpE.call rfl hB rfl Tryz.call24 rfl (SpecN.spec (rf_BothFault hps hos)) ?_)
   rintro _ rfl
   refine VO.mv rfl rfl rfl rfl ?_
   refine VO.mv rfl rfl rfl rfl ?_
   refine VO.op rfl (OpE.call rfl hB rfl Tryz.call38 rfl (SpecN.spec (rf_ScheduleFault (by omega) (by omega))) ?_)
   rintro _ rfl
   refine VO.mv rfl rfl rfl rfl ?_
   refine VO.mv rfl rfl rfl rfl ?_
   refine VO.op rfl (OpE.call rfl hB rfl Tryz.call25 rfl (SpecN.spec (rf_StartFault)) ?_)
   rintro _ rfl
   refine VO.op rfl (OpE.buildSlice (zc := #[.int .i64 0, .int .i64 0, .int .i64 0]) rfl hB rfl Tryz.underlying130 Tryz.sizeOf38 Tryz.zeroValue38 (by decide) (by decide) (by kernel_rfl) rfl rfl ?_)
   refine VO.le _ (Le.lits (t := 117) (xs := [bothF p o, schF o.length l, startF r41 r44]) rfl rfl) ?_
   refine VO.op rfl (OpE.call rfl hB rfl Tryz.call23 rfl (SpecN.spec (rl_errs (by simp))) ?_)
   rintro _ rfl
   refine VO.le _ (Le.recast (t := 118) (y := avI (scheF p o l r41 r44)) rfl (fun w Z u h => by rw [← twoE_eq]; exact h)) ?_
   refine VO.ma rfl rfl rfl rfl ?_
   refine VO.nil ?_
   refine VC.sr ?_
   refine VO.ma rfl rfl rfl rfl ?_
   refine VO.ma rfl rfl rfl rfl ?_
   refine VO.ma rfl rfl rfl rfl ?_
   refine VO.nil ?_
   refine VC.seq ?_
   refine VC.sr ?_
   refine VO.mv rfl rfl rfl rfl ?_
   refine VO.val rfl rfl (OpV.eql rfl rfl rfl) ?_
   refine VO.nil ?_
   refine VC.cond rfl (fun h0b => ?_) (fun h0b => ?_)
   ·have h0 := h0b
    try simp only [qqT, qqF, qqN, qqM, qqL, qqE] at h0
    have z0 := chgE_zero h0
    have y1 := chgV_ok h0
    refine VC.region ?_
    refine VO.mv rfl rfl rfl rfl ?_
    refine VO.mv rfl rfl rfl rfl ?_
    refine VO.mv rfl rfl rfl rfl ?_
    refine VO.mv rfl rfl rfl rfl ?_
    refine VO.op rfl (OpE.call rfl hB rfl Tryz.call39 rfl (SpecN.spec (rf_ChangeoverOf hps z0)) ?_)
    rintro _ rfl
    refine VO.ma rfl rfl rfl rfl ?_
    refine VO.nil ?_
    refine VC.sr ?_
    refine VO.ma rfl rfl rfl rfl ?_
    first | refine VO.le _ (Le.recast (t := 27) (y := avL ([] : List WinS)) rfl (fun w Z u h => by rw [h.eq_v]; exact .nil _ _)) ?_ | skip
    refine VO.nil ?_
    refine VC.seq ?_
    refine VC.seq ?_
    have y5 := timesR_len p o l r41 r44
    have y6 := timesQ_len p o l r41 r44 l.length
    refine VC.region ?_
    refine VO.mv rfl rfl rfl rfl ?_
    refine VO.val rfl rfl (OpV.eql rfl rfl rfl) ?_
    refine VO.nil ?_
    refine VC.cond rfl (fun h1b => ?_) (fun h1b => ?_)
    ·have h1 := h1b
     try simp only [qqT, qqF, qqN, qqM, qqL, qqE] at h1
     have hk := schOk h1
     have y2 := (sched_ok h1).1
     have y3 := (sched_ok h1).2.1
     have y4 := (sched_ok h1).2.2
     refine VC.sr ?_
     refine VO.mv rfl rfl rfl rfl ?_
     refine VO.mv rfl rfl rfl rfl ?_
     refine VO.mv rfl rfl rfl rfl ?_
     refine VO.mv rfl rfl rfl rfl ?_
     refine VO.mv rfl rfl rfl rfl ?_
     refine VO.op rfl (OpE.call rfl hB rfl Tryz.call40 rfl (SpecN.spec (rf_TimesOf hps hk)) ?_)
     rintro _ rfl
     refine VO.ma rfl rfl rfl rfl ?_
     first | refine VO.le _ (Le.recast (t := 27) (y := avL ([] : List WinS)) rfl (fun w Z u h => by rw [h.eq_v]; exact .nil _ _)) ?_ | skip
     refine VO.nil ?_
     refine VC.region ?_
     refine VO.mv rfl rfl rfl rfl ?_
     refine VO.mv rfl rfl rfl rfl ?_
     refine VO.mv rfl rfl rfl rfl ?_
     refine VO.mv rfl rfl rfl rfl ?_
     refine VO.mv rfl rfl rfl rfl ?_
     refine VO.op rfl (OpE.call rfl hB rfl Tryz.call41 rfl (SpecN.spec (rf_LateOf hps hk)) ?_)
     rintro _ rfl
     refine VO.mv rfl rfl rfl rfl ?_
     refine VO.val rfl rfl (OpV.extract rfl rfl rfl) ?_
     refine VO.val rfl rfl (OpV.extract rfl rfl rfl) ?_
     refine VO.ma rfl rfl rfl rfl ?_
     refine VO.ma rfl rfl rfl rfl ?_
     refine VO.nil ?_
     refine VC.sr ?_
     refine VO.mv rfl rfl rfl rfl ?_
     refine VO.mv rfl rfl rfl rfl ?_
     refine VO.val rfl rfl (OpV.eql rfl rfl rfl) ?_
     refine VO.le _ (Le.boolT (t := 145) rfl (decide_eq_true rfl)) ?_
     refine VO.mv rfl rfl rfl rfl ?_
     refine VO.opY rfl rfl rfl rfl rfl ?_
     refine OpE.val (W := NoB) (OpV.move (.inl rfl) rfl) rfl ?_
     refine VO.opY rfl rfl rfl rfl rfl ?_
     refine OpE.val (W := NoB) (OpV.move (.inl rfl) rfl) rfl ?_
     refine VO.opY rfl rfl rfl rfl rfl ?_
     refine OpE.val (W := NoB) (OpV.eql rfl rfl rfl) rfl ?_
     refine VO.le _ (Le.boolT (t := 149) rfl (decide_eq_true y1)) ?_
     refine VO.val rfl rfl (OpV.pickT rfl rfl rfl rfl rfl) ?_
     refine VO.mv rfl rfl rfl rfl ?_
     refine VO.opY rfl rfl rfl rfl rfl ?_
     refine OpE.val (W := NoB) (OpV.move (.inl rfl) rfl) rfl ?_
     refine VO.opY rfl rfl rfl rfl rfl ?_
     refine OpE.val (W := NoB) (OpV.move (.inl rfl) rfl) rfl ?_
     refine VO.opY rfl rfl rfl rfl rfl ?_
     refine OpE.val (W := NoB) (OpV.eql rfl rfl rfl) rfl ?_
     refine VO.le _ (Le.boolT (t := 154) rfl (decide_eq_true rfl)) ?_
     refine VO.val rfl rfl (OpV.pickT rfl rfl rfl rfl rfl) ?_
     refine VO.mv rfl rfl rfl rfl ?_
     refine VO.opY rfl rfl rfl rfl rfl ?_
     refine OpE.val (W := NoB) (OpV.move (.inl rfl) rfl) rfl ?_
     refine VO.opY rfl rfl rfl rfl rfl ?_
     refine OpE.val (W := NoB) (OpV.move (.inl rfl) rfl) rfl ?_
     refine VO.opY rfl rfl rfl rfl rfl ?_
     refine OpE.call rfl hB rfl Tryz.call42 rfl (SpecN.spec (slices_Equal_win (by omega) (by first | omega | decide))) ?_
     rintro _ rfl
     refine VO.le _ (Le.boolT (t := 159) rfl (by rw [y2]; first | exact eqLs_self eqWn_self _ | rfl)) ?_
     refine VO.val rfl rfl (OpV.pickT rfl rfl rfl rfl rfl) ?_
     refine VO.mv rfl rfl rfl rfl ?_
     refine VO.opY rfl rfl rfl rfl rfl ?_
     refine OpE.val (W := NoB) (OpV.move (.inl rfl) rfl) rfl ?_
     refine VO.opY rfl rfl rfl rfl rfl ?_
     refine OpE.val (W := NoB) (OpV.move (.inl rfl) rfl) rfl ?_
     refine VO.opY rfl rfl rfl rfl rfl ?_
     refine OpE.val (W := NoB) (OpV.eql rfl rfl rfl) rfl ?_
     refine VO.le _ (Le.boolT (t := 164) rfl (decide_eq_true rfl)) ?_
     refine VO.val rfl rfl (OpV.pickT rfl rfl rfl rfl rfl) ?_
     refine VO.mv rfl rfl rfl rfl ?_
     refine VO.opY rfl rfl rfl rfl rfl ?_
     refine OpE.val (W := NoB) (OpV.move (.inl rfl) rfl) rfl ?_
     refine VO.opY rfl rfl rfl rfl rfl ?_
     refine OpE.val (W := NoB) (OpV.move (.inl rfl) rfl) rfl ?_
     refine VO.opY rfl rfl rfl rfl rfl ?_
     refine OpE.val (W := NoB) (OpV.eql rfl rfl rfl) rfl ?_
     refine VO.le _ (Le.boolT (t := 169) rfl (decide_eq_true y3)) ?_
     refine VO.val rfl rfl (OpV.pickT rfl rfl rfl rfl rfl) ?_
     refine VO.mv rfl rfl rfl rfl ?_
     refine VO.opY rfl rfl rfl rfl rfl ?_
     refine OpE.val (W := NoB) (OpV.move (.inl rfl) rfl) rfl ?_
     refine VO.opY rfl rfl rfl rfl rfl ?_
     refine OpE.val (W := NoB) (OpV.move (.inl rfl) rfl) rfl ?_
     refine VO.opY rfl rfl rfl rfl rfl ?_
     refine OpE.val (W := NoB) (OpV.eql rfl rfl rfl) rfl ?_
     refine VO.le _ (Le.boolT (t := 174) rfl (decide_eq_true y4)) ?_
     refine VO.val rfl rfl (OpV.pickT rfl rfl rfl rfl rfl) ?_
     refine VO.mv rfl rfl rfl rfl ?_
     refine VO.opY rfl rfl rfl rfl rfl ?_
     refine OpE.call rfl hB rfl Tryz.call29 rfl (SpecN.spec (rl_planned)) ?_
     rintro _ rfl
     refine VO.val rfl rfl (OpV.pickT rfl rfl rfl rfl rfl) ?_
     refine VO.ma rfl rfl rfl rfl ?_
     refine VO.nil ?_
     refine VC.ret ?_
     exact And.intro rfl rfl
    ·have h1 := h1b
     try simp only [qqT, qqF, qqN, qqM, qqL, qqE] at h1
     have y2 := (sched_no h1).1
     have y3 := (sched_no h1).2.1
     have y4 := (sched_no h1).2.2
     refine VC.skip ?_
     refine VC.sr ?_
     refine VO.mv rfl rfl rfl rfl ?_
     refine VO.mv rfl rfl rfl rfl ?_
     refine VO.val rfl rfl (OpV.eql rfl rfl rfl) ?_
     refine VO.le _ (Le.boolT (t := 145) rfl (decide_eq_true rfl)) ?_
     refine VO.mv rfl rfl rfl rfl ?_
     refine VO.opY rfl rfl rfl rfl rfl ?_
     refine OpE.val (W := NoB) (OpV.move (.inl rfl) rfl) rfl ?_
     refine VO.opY rfl rfl rfl rfl rfl ?_
     refine OpE.val (W := NoB) (OpV.move (.inl rfl) rfl) rfl ?_
     refine VO.opY rfl rfl rfl rfl rfl ?_
     refine OpE.val (W := NoB) (OpV.eql rfl rfl rfl) rfl ?_
     refine VO.le _ (Le.boolT (t := 149) rfl (decide_eq_true y1)) ?_
     refine VO.val rfl rfl (OpV.pickT rfl rfl rfl rfl rfl) ?_
     refine VO.mv rfl rfl rfl rfl ?_
     refine VO.opY rfl rfl rfl rfl rfl ?_
     refine OpE.val (W := NoB) (OpV.move (.inl rfl) rfl) rfl ?_
     refine VO.opY rfl rfl rfl rfl rfl ?_
     refine OpE.val (W := NoB) (OpV.move (.inl rfl) rfl) rfl ?_
     refine VO.opY rfl rfl rfl rfl rfl ?_
     refine OpE.val (W := NoB) (OpV.eql rfl rfl rfl) rfl ?_
     refine VO.le _ (Le.boolT (t := 154) rfl (decide_eq_true rfl)) ?_
     refine VO.val rfl rfl (OpV.pickT rfl rfl rfl rfl rfl) ?_
     refine VO.mv rfl rfl rfl rfl ?_
     refine VO.opY rfl rfl rfl rfl rfl ?_
     refine OpE.val (W := NoB) (OpV.move (.inl rfl) rfl) rfl ?_
     refine VO.opY rfl rfl rfl rfl rfl ?_
     refine OpE.val (W := NoB) (OpV.move (.inl rfl) rfl) rfl ?_
     refine VO.opY rfl rfl rfl rfl rfl ?_
     refine OpE.call rfl hB rfl Tryz.call42 rfl (SpecN.spec (slices_Equal_win (by omega) (by first | omega | decide))) ?_
     rintro _ rfl
     refine VO.le _ (Le.boolT (t := 159) rfl (by rw [y2]; first | exact eqLs_self eqWn_self _ | rfl)) ?_
     refine VO.val rfl rfl (OpV.pickT rfl rfl rfl rfl rfl) ?_
     refine VO.mv rfl rfl rfl rfl ?_
     refine VO.opY rfl rfl rfl rfl rfl ?_
     refine OpE.val (W := NoB) (OpV.move (.inl rfl) rfl) rfl ?_
     refine VO.opY rfl rfl rfl rfl rfl ?_
     refine OpE.val (W := NoB) (OpV.move (.inl rfl) rfl) rfl ?_
     refine VO.opY rfl rfl rfl rfl rfl ?_
     refine OpE.val (W := NoB) (OpV.eql rfl rfl rfl) rfl ?_
     refine VO.le _ (Le.boolT (t := 164) rfl (decide_eq_true rfl)) ?_
     refine VO.val rfl rfl (OpV.pickT rfl rfl rfl rfl rfl) ?_
     refine VO.mv rfl rfl rfl rfl ?_
     refine VO.opY rfl rfl rfl rfl rfl ?_
     refine OpE.val (W := NoB) (OpV.move (.inl rfl) rfl) rfl ?_
     refine VO.opY rfl rfl rfl rfl rfl ?_
     refine OpE.val (W := NoB) (OpV.move (.inl rfl) rfl) rfl ?_
     refine VO.opY rfl rfl rfl rfl rfl ?_
     refine OpE.val (W := NoB) (OpV.eql rfl rfl rfl) rfl ?_
     refine VO.le _ (Le.boolT (t := 169) rfl (decide_eq_true y3)) ?_
     refine VO.val rfl rfl (OpV.pickT rfl rfl rfl rfl rfl) ?_
     refine VO.mv rfl rfl rfl rfl ?_
     refine VO.opY rfl rfl rfl rfl rfl ?_
     refine OpE.val (W := NoB) (OpV.move (.inl rfl) rfl) rfl ?_
     refine VO.opY rfl rfl rfl rfl rfl ?_
     refine OpE.val (W := NoB) (OpV.move (.inl rfl) rfl) rfl ?_
     refine VO.opY rfl rfl rfl rfl rfl ?_
     refine OpE.val (W := NoB) (OpV.eql rfl rfl rfl) rfl ?_
     refine VO.le _ (Le.boolT (t := 174) rfl (decide_eq_true y4)) ?_
     refine VO.val rfl rfl (OpV.pickT rfl rfl rfl rfl rfl) ?_
     refine VO.mv rfl rfl rfl rfl ?_
     refine VO.opY rfl rfl rfl rfl rfl ?_
     refine OpE.call rfl hB rfl Tryz.call29 rfl (SpecN.spec (rl_planned)) ?_
     rintro _ rfl
     refine VO.val rfl rfl (OpV.pickT rfl rfl rfl rfl rfl) ?_
     refine VO.ma rfl rfl rfl rfl ?_
     refine VO.nil ?_
     refine VC.ret ?_
     exact And.intro rfl rfl
   ·have h0 := h0b
    try simp only [qqT, qqF, qqN, qqM, qqL, qqE] at h0
    have y1 := chgV_no h0
    refine VC.skip ?_
    refine VC.sr ?_
    refine VO.ma rfl rfl rfl rfl ?_
    first | refine VO.le _ (Le.recast (t := 27) (y := avL ([] : List WinS)) rfl (fun w Z u h => by rw [h.eq_v]; exact .nil _ _)) ?_ | skip
    refine VO.nil ?_
    refine VC.seq ?_
    refine VC.seq ?_
    have y5 := timesR_len p o l r41 r44
    have y6 := timesQ_len p o l r41 r44 l.length
    refine VC.region ?_
    refine VO.mv rfl rfl rfl rfl ?_
    refine VO.val rfl rfl (OpV.eql rfl rfl rfl) ?_
    refine VO.nil ?_
    refine VC.cond rfl (fun h1b => ?_) (fun h1b => ?_)
    ·have h1 := h1b
     try simp only [qqT, qqF, qqN, qqM, qqL, qqE] at h1
     have hk := schOk h1
     have y2 := (sched_ok h1).1
     have y3 := (sched_ok h1).2.1
     have y4 := (sched_ok h1).2.2
     refine VC.sr ?_
     refine VO.mv rfl rfl rfl rfl ?_
     refine VO.mv rfl rfl rfl rfl ?_
     refine VO.mv rfl rfl rfl rfl ?_
     refine VO.mv rfl rfl rfl rfl ?_
     refine VO.mv rfl rfl rfl rfl ?_
     refine VO.op rfl (OpE.call rfl hB rfl Tryz.call40 rfl (SpecN.spec (rf_TimesOf hps hk)) ?_)
     rintro _ rfl
     refine VO.ma rfl rfl rfl rfl ?_
     first | refine VO.le _ (Le.recast (t := 27) (y := avL ([] : List WinS)) rfl (fun w Z u h => by rw [h.eq_v]; exact .nil _ _)) ?_ | skip
     refine VO.nil ?_
     refine VC.region ?_
     refine VO.mv rfl rfl rfl rfl ?_
     refine VO.mv rfl rfl rfl rfl ?_
     refine VO.mv rfl rfl rfl rfl ?_
     refine VO.mv rfl rfl rfl rfl ?_
     refine VO.mv rfl rfl rfl rfl ?_
     refine VO.op rfl (OpE.call rfl hB rfl Tryz.call41 rfl (SpecN.spec (rf_LateOf hps hk)) ?_)
     rintro _ rfl
     refine VO.mv rfl rfl rfl rfl ?_
     refine VO.val rfl rfl (OpV.extract rfl rfl rfl) ?_
     refine VO.val rfl rfl (OpV.extract rfl rfl rfl) ?_
     refine VO.ma rfl rfl rfl rfl ?_
     refine VO.ma rfl rfl rfl rfl ?_
     refine VO.nil ?_
     refine VC.sr ?_
     refine VO.mv rfl rfl rfl rfl ?_
     refine VO.mv rfl rfl rfl rfl ?_
     refine VO.val rfl rfl (OpV.eql rfl rfl rfl) ?_
     refine VO.le _ (Le.boolT (t := 145) rfl (decide_eq_true rfl)) ?_
     refine VO.mv rfl rfl rfl rfl ?_
     refine VO.opY rfl rfl rfl rfl rfl ?_
     refine OpE.val (W := NoB) (OpV.move (.inl rfl) rfl) rfl ?_
     refine VO.opY rfl rfl rfl rfl rfl ?_
     refine OpE.val (W := NoB) (OpV.move (.inl rfl) rfl) rfl ?_
     refine VO.opY rfl rfl rfl rfl rfl ?_
     refine OpE.val (W := NoB) (OpV.eql rfl rfl rfl) rfl ?_
     refine VO.le _ (Le.boolT (t := 149) rfl (decide_eq_true y1)) ?_
     refine VO.val rfl rfl (OpV.pickT rfl rfl rfl rfl rfl) ?_
     refine VO.mv rfl rfl rfl rfl ?_
     refine VO.opY rfl rfl rfl rfl rfl ?_
     refine OpE.val (W := NoB) (OpV.move (.inl rfl) rfl) rfl ?_
     refine VO.opY rfl rfl rfl rfl rfl ?_
     refine OpE.val (W := NoB) (OpV.move (.inl rfl) rfl) rfl ?_
     refine VO.opY rfl rfl rfl rfl rfl ?_
     refine OpE.val (W := NoB) (OpV.eql rfl rfl rfl) rfl ?_
     refine VO.le _ (Le.boolT (t := 154) rfl (decide_eq_true rfl)) ?_
     refine VO.val rfl rfl (OpV.pickT rfl rfl rfl rfl rfl) ?_
     refine VO.mv rfl rfl rfl rfl ?_
     refine VO.opY rfl rfl rfl rfl rfl ?_
     refine OpE.val (W := NoB) (OpV.move (.inl rfl) rfl) rfl ?_
     refine VO.opY rfl rfl rfl rfl rfl ?_
     refine OpE.val (W := NoB) (OpV.move (.inl rfl) rfl) rfl ?_
     refine VO.opY rfl rfl rfl rfl rfl ?_
     refine OpE.call rfl hB rfl Tryz.call42 rfl (SpecN.spec (slices_Equal_win (by omega) (by first | omega | decide))) ?_
     rintro _ rfl
     refine VO.le _ (Le.boolT (t := 159) rfl (by rw [y2]; first | exact eqLs_self eqWn_self _ | rfl)) ?_
     refine VO.val rfl rfl (OpV.pickT rfl rfl rfl rfl rfl) ?_
     refine VO.mv rfl rfl rfl rfl ?_
     refine VO.opY rfl rfl rfl rfl rfl ?_
     refine OpE.val (W := NoB) (OpV.move (.inl rfl) rfl) rfl ?_
     refine VO.opY rfl rfl rfl rfl rfl ?_
     refine OpE.val (W := NoB) (OpV.move (.inl rfl) rfl) rfl ?_
     refine VO.opY rfl rfl rfl rfl rfl ?_
     refine OpE.val (W := NoB) (OpV.eql rfl rfl rfl) rfl ?_
     refine VO.le _ (Le.boolT (t := 164) rfl (decide_eq_true rfl)) ?_
     refine VO.val rfl rfl (OpV.pickT rfl rfl rfl rfl rfl) ?_
     refine VO.mv rfl rfl rfl rfl ?_
     refine VO.opY rfl rfl rfl rfl rfl ?_
     refine OpE.val (W := NoB) (OpV.move (.inl rfl) rfl) rfl ?_
     refine VO.opY rfl rfl rfl rfl rfl ?_
     refine OpE.val (W := NoB) (OpV.move (.inl rfl) rfl) rfl ?_
     refine VO.opY rfl rfl rfl rfl rfl ?_
     refine OpE.val (W := NoB) (OpV.eql rfl rfl rfl) rfl ?_
     refine VO.le _ (Le.boolT (t := 169) rfl (decide_eq_true y3)) ?_
     refine VO.val rfl rfl (OpV.pickT rfl rfl rfl rfl rfl) ?_
     refine VO.mv rfl rfl rfl rfl ?_
     refine VO.opY rfl rfl rfl rfl rfl ?_
     refine OpE.val (W := NoB) (OpV.move (.inl rfl) rfl) rfl ?_
     refine VO.opY rfl rfl rfl rfl rfl ?_
     refine OpE.val (W := NoB) (OpV.move (.inl rfl) rfl) rfl ?_
     refine VO.opY rfl rfl rfl rfl rfl ?_
     refine OpE.val (W := NoB) (OpV.eql rfl rfl rfl) rfl ?_
     refine VO.le _ (Le.boolT (t := 174) rfl (decide_eq_true y4)) ?_
     refine VO.val rfl rfl (OpV.pickT rfl rfl rfl rfl rfl) ?_
     refine VO.mv rfl rfl rfl rfl ?_
     refine VO.opY rfl rfl rfl rfl rfl ?_
     refine OpE.call rfl hB rfl Tryz.call29 rfl (SpecN.spec (rl_planned)) ?_
     rintro _ rfl
     refine VO.val rfl rfl (OpV.pickT rfl rfl rfl rfl rfl) ?_
     refine VO.ma rfl rfl rfl rfl ?_
     refine VO.nil ?_
     refine VC.ret ?_
     exact And.intro rfl rfl
    ·have h1 := h1b
     try simp only [qqT, qqF, qqN, qqM, qqL, qqE] at h1
     have y2 := (sched_no h1).1
     have y3 := (sched_no h1).2.1
     have y4 := (sched_no h1).2.2
     refine VC.skip ?_
     refine VC.sr ?_
     refine VO.mv rfl rfl rfl rfl ?_
     refine VO.mv rfl rfl rfl rfl ?_
     refine VO.val rfl rfl (OpV.eql rfl rfl rfl) ?_
     refine VO.le _ (Le.boolT (t := 145) rfl (decide_eq_true rfl)) ?_
     refine VO.mv rfl rfl rfl rfl ?_
     refine VO.opY rfl rfl rfl rfl rfl ?_
     refine OpE.val (W := NoB) (OpV.move (.inl rfl) rfl) rfl ?_
     refine VO.opY rfl rfl rfl rfl rfl ?_
     refine OpE.val (W := NoB) (OpV.move (.inl rfl) rfl) rfl ?_
     refine VO.opY rfl rfl rfl rfl rfl ?_
     refine OpE.val (W := NoB) (OpV.eql rfl rfl rfl) rfl ?_
     refine VO.le _ (Le.boolT (t := 149) rfl (decide_eq_true y1)) ?_
     refine VO.val rfl rfl (OpV.pickT rfl rfl rfl rfl rfl) ?_
     refine VO.mv rfl rfl rfl rfl ?_
     refine VO.opY rfl rfl rfl rfl rfl ?_
     refine OpE.val (W := NoB) (OpV.move (.inl rfl) rfl) rfl ?_
     refine VO.opY rfl rfl rfl rfl rfl ?_
     refine OpE.val (W := NoB) (OpV.move (.inl rfl) rfl) rfl ?_
     refine VO.opY rfl rfl rfl rfl rfl ?_
     refine OpE.val (W := NoB) (OpV.eql rfl rfl rfl) rfl ?_
     refine VO.le _ (Le.boolT (t := 154) rfl (decide_eq_true rfl)) ?_
     refine VO.val rfl rfl (OpV.pickT rfl rfl rfl rfl rfl) ?_
     refine VO.mv rfl rfl rfl rfl ?_
     refine VO.opY rfl rfl rfl rfl rfl ?_
     refine OpE.val (W := NoB) (OpV.move (.inl rfl) rfl) rfl ?_
     refine VO.opY rfl rfl rfl rfl rfl ?_
     refine OpE.val (W := NoB) (OpV.move (.inl rfl) rfl) rfl ?_
     refine VO.opY rfl rfl rfl rfl rfl ?_
     refine OpE.call rfl hB rfl Tryz.call42 rfl (SpecN.spec (slices_Equal_win (by omega) (by first | omega | decide))) ?_
     rintro _ rfl
     refine VO.le _ (Le.boolT (t := 159) rfl (by rw [y2]; first | exact eqLs_self eqWn_self _ | rfl)) ?_
     refine VO.val rfl rfl (OpV.pickT rfl rfl rfl rfl rfl) ?_
     refine VO.mv rfl rfl rfl rfl ?_
     refine VO.opY rfl rfl rfl rfl rfl ?_
     refine OpE.val (W := NoB) (OpV.move (.inl rfl) rfl) rfl ?_
     refine VO.opY rfl rfl rfl rfl rfl ?_
     refine OpE.val (W := NoB) (OpV.move (.inl rfl) rfl) rfl ?_
     refine VO.opY rfl rfl rfl rfl rfl ?_
     refine OpE.val (W := NoB) (OpV.eql rfl rfl rfl) rfl ?_
     refine VO.le _ (Le.boolT (t := 164) rfl (decide_eq_true rfl)) ?_
     refine VO.val rfl rfl (OpV.pickT rfl rfl rfl rfl rfl) ?_
     refine VO.mv rfl rfl rfl rfl ?_
     refine VO.opY rfl rfl rfl rfl rfl ?_
     refine OpE.val (W := NoB) (OpV.move (.inl rfl) rfl) rfl ?_
     refine VO.opY rfl rfl rfl rfl rfl ?_
     refine OpE.val (W := NoB) (OpV.move (.inl rfl) rfl) rfl ?_
     refine VO.opY rfl rfl rfl rfl rfl ?_
     refine OpE.val (W := NoB) (OpV.eql rfl rfl rfl) rfl ?_
     refine VO.le _ (Le.boolT (t := 169) rfl (decide_eq_true y3)) ?_
     refine VO.val rfl rfl (OpV.pickT rfl rfl rfl rfl rfl) ?_
     refine VO.mv rfl rfl rfl rfl ?_
     refine VO.opY rfl rfl rfl rfl rfl ?_
     refine OpE.val (W := NoB) (OpV.move (.inl rfl) rfl) rfl ?_
     refine VO.opY rfl rfl rfl rfl rfl ?_
     refine OpE.val (W := NoB) (OpV.move (.inl rfl) rfl) rfl ?_
     refine VO.opY rfl rfl rfl rfl rfl ?_
     refine OpE.val (W := NoB) (OpV.eql rfl rfl rfl) rfl ?_
     refine VO.le _ (Le.boolT (t := 174) rfl (decide_eq_true y4)) ?_
     refine VO.val rfl rfl (OpV.pickT rfl rfl rfl rfl rfl) ?_
     refine VO.mv rfl rfl rfl rfl ?_
     refine VO.opY rfl rfl rfl rfl rfl ?_
     refine OpE.call rfl hB rfl Tryz.call29 rfl (SpecN.spec (rl_planned)) ?_
     rintro _ rfl
     refine VO.val rfl rfl (OpV.pickT rfl rfl rfl rfl rfl) ?_
     refine VO.ma rfl rfl rfl rfl ?_
     refine VO.nil ?_
     refine VC.ret ?_
     exact And.intro rfl rfl
  ·replace aK2b : _ = true := aK2b
   have aK2 := aK2b
   try simp only [qqT, qqF, qqN, qqM, qqL, qqE] at aK2
   refine VO.opX rfl rfl rfl rfl aK2b ?_
   refine VO.val rfl rfl (OpV.pickT rfl rfl rfl rfl aK2b) ?_
   refine VO.op rfl (OpE.call rfl hB rfl Tryz.call37 rfl (SpecN.spec (rl_when)) ?_)
   rintro _ rfl
   refine VO.le _ (Le.recast (t := 105) (y := avI (if (hasP p r47 && hasP p r50) = true then 0 else 8)) rfl (fun w Z u h => by cases h1 : hasP p r47 <;> cases h2 : hasP p r50 <;> simp_all)) ?_
   refine VO.op rfl (OpE.buildSlice (zc := #[.int .i64 0, .int .i64 0, .int .i64 0]) rfl hB rfl Tryz.underlying130 Tryz.sizeOf38 Tryz.zeroValue38 (by decide) (by decide) (by kernel_rfl) rfl rfl ?_)
   refine VO.le _ (Le.lits (t := 106) (xs := [paceF p, if outR r44 0 10000000 = true then 1 else 0, if (hasP p r47 && hasP p r50) = true then 0 else 8]) rfl rfl) ?_
   refine VO.op rfl (OpE.call rfl hB rfl Tryz.call23 rfl (SpecN.spec (rl_errs (by simp))) ?_)
   rintro _ rfl
   refine VO.le _ (Le.recast (t := 107) (y := avI (chgE p r47 r50 r44)) rfl (fun w Z u h => by rw [← oneE_eq]; exact h)) ?_
   refine VO.ma rfl rfl rfl rfl ?_
   refine VO.nil ?_
   refine VC.sr ?_
   refine VO.mv rfl rfl rfl rfl ?_
   refine VO.mv rfl rfl rfl rfl ?_
   refine VO.op rfl (OpE.call rfl hB rfl Tryz.call24 rfl (SpecN.spec (rf_BothFault hps hos)) ?_)
   rintro _ rfl
   refine VO.mv rfl rfl rfl rfl ?_
   refine VO.mv rfl rfl rfl rfl ?_
   refine VO.op rfl (OpE.call rfl hB rfl Tryz.call38 rfl (SpecN.spec (rf_ScheduleFault (by omega) (by omega))) ?_)
   rintro _ rfl
   refine VO.mv rfl rfl rfl rfl ?_
   refine VO.mv rfl rfl rfl rfl ?_
   refine VO.op rfl (OpE.call rfl hB rfl Tryz.call25 rfl (SpecN.spec (rf_StartFault)) ?_)
   rintro _ rfl
   refine VO.op rfl (OpE.buildSlice (zc := #[.int .i64 0, .int .i64 0, .int .i64 0]) rfl hB rfl Tryz.underlying130 Tryz.sizeOf38 Tryz.zeroValue38 (by decide) (by decide) (by kernel_rfl) rfl rfl ?_)
   refine VO.le _ (Le.lits (t := 117) (xs := [bothF p o, schF o.length l, startF r41 r44]) rfl rfl) ?_
   refine VO.op rfl (OpE.call rfl hB rfl Tryz.call23 rfl (SpecN.spec (rl_errs (by simp))) ?_)
   rintro _ rfl
   refine VO.le _ (Le.recast (t := 118) (y := avI (scheF p o l r41 r44)) rfl (fun w Z u h => by rw [← twoE_eq]; exact h)) ?_
   refine VO.ma rfl rfl rfl rfl ?_
   refine VO.nil ?_
   refine VC.sr ?_
   refine VO.ma rfl rfl rfl rfl ?_
   refine VO.ma rfl rfl rfl rfl ?_
   refine VO.ma rfl rfl rfl rfl ?_
   refine VO.nil ?_
   refine VC.seq ?_
   refine VC.sr ?_
   refine VO.mv rfl rfl rfl rfl ?_
   refine VO.val rfl rfl (OpV.eql rfl rfl rfl) ?_
   refine VO.nil ?_
   refine VC.cond rfl (fun h0b => ?_) (fun h0b => ?_)
   ·have h0 := h0b
    try simp only [qqT, qqF, qqN, qqM, qqL, qqE] at h0
    have z0 := chgE_zero h0
    have y1 := chgV_ok h0
    refine VC.region ?_
    refine VO.mv rfl rfl rfl rfl ?_
    refine VO.mv rfl rfl rfl rfl ?_
    refine VO.mv rfl rfl rfl rfl ?_
    refine VO.mv rfl rfl rfl rfl ?_
    refine VO.op rfl (OpE.call rfl hB rfl Tryz.call39 rfl (SpecN.spec (rf_ChangeoverOf hps z0)) ?_)
    rintro _ rfl
    refine VO.ma rfl rfl rfl rfl ?_
    refine VO.nil ?_
    refine VC.sr ?_
    refine VO.ma rfl rfl rfl rfl ?_
    first | refine VO.le _ (Le.recast (t := 27) (y := avL ([] : List WinS)) rfl (fun w Z u h => by rw [h.eq_v]; exact .nil _ _)) ?_ | skip
    refine VO.nil ?_
    refine VC.seq ?_
    refine VC.seq ?_
    have y5 := timesR_len p o l r41 r44
    have y6 := timesQ_len p o l r41 r44 l.length
    refine VC.region ?_
    refine VO.mv rfl rfl rfl rfl ?_
    refine VO.val rfl rfl (OpV.eql rfl rfl rfl) ?_
    refine VO.nil ?_
    refine VC.cond rfl (fun h1b => ?_) (fun h1b => ?_)
    ·have h1 := h1b
     try simp only [qqT, qqF, qqN, qqM, qqL, qqE] at h1
     have hk := schOk h1
     have y2 := (sched_ok h1).1
     have y3 := (sched_ok h1).2.1
     have y4 := (sched_ok h1).2.2
     refine VC.sr ?_
     refine VO.mv rfl rfl rfl rfl ?_
     refine VO.mv rfl rfl rfl rfl ?_
     refine VO.mv rfl rfl rfl rfl ?_
     refine VO.mv rfl rfl rfl rfl ?_
     refine VO.mv rfl rfl rfl rfl ?_
     refine VO.op rfl (OpE.call rfl hB rfl Tryz.call40 rfl (SpecN.spec (rf_TimesOf hps hk)) ?_)
     rintro _ rfl
     refine VO.ma rfl rfl rfl rfl ?_
     first | refine VO.le _ (Le.recast (t := 27) (y := avL ([] : List WinS)) rfl (fun w Z u h => by rw [h.eq_v]; exact .nil _ _)) ?_ | skip
     refine VO.nil ?_
     refine VC.region ?_
     refine VO.mv rfl rfl rfl rfl ?_
     refine VO.mv rfl rfl rfl rfl ?_
     refine VO.mv rfl rfl rfl rfl ?_
     refine VO.mv rfl rfl rfl rfl ?_
     refine VO.mv rfl rfl rfl rfl ?_
     refine VO.op rfl (OpE.call rfl hB rfl Tryz.call41 rfl (SpecN.spec (rf_LateOf hps hk)) ?_)
     rintro _ rfl
     refine VO.mv rfl rfl rfl rfl ?_
     refine VO.val rfl rfl (OpV.extract rfl rfl rfl) ?_
     refine VO.val rfl rfl (OpV.extract rfl rfl rfl) ?_
     refine VO.ma rfl rfl rfl rfl ?_
     refine VO.ma rfl rfl rfl rfl ?_
     refine VO.nil ?_
     refine VC.sr ?_
     refine VO.mv rfl rfl rfl rfl ?_
     refine VO.mv rfl rfl rfl rfl ?_
     refine VO.val rfl rfl (OpV.eql rfl rfl rfl) ?_
     refine VO.le _ (Le.boolT (t := 145) rfl (decide_eq_true rfl)) ?_
     refine VO.mv rfl rfl rfl rfl ?_
     refine VO.opY rfl rfl rfl rfl rfl ?_
     refine OpE.val (W := NoB) (OpV.move (.inl rfl) rfl) rfl ?_
     refine VO.opY rfl rfl rfl rfl rfl ?_
     refine OpE.val (W := NoB) (OpV.move (.inl rfl) rfl) rfl ?_
     refine VO.opY rfl rfl rfl rfl rfl ?_
     refine OpE.val (W := NoB) (OpV.eql rfl rfl rfl) rfl ?_
     refine VO.le _ (Le.boolT (t := 149) rfl (decide_eq_true y1)) ?_
     refine VO.val rfl rfl (OpV.pickT rfl rfl rfl rfl rfl) ?_
     refine VO.mv rfl rfl rfl rfl ?_
     refine VO.opY rfl rfl rfl rfl rfl ?_
     refine OpE.val (W := NoB) (OpV.move (.inl rfl) rfl) rfl ?_
     refine VO.opY rfl rfl rfl rfl rfl ?_
     refine OpE.val (W := NoB) (OpV.move (.inl rfl) rfl) rfl ?_
     refine VO.opY rfl rfl rfl rfl rfl ?_
     refine OpE.val (W := NoB) (OpV.eql rfl rfl rfl) rfl ?_
     refine VO.le _ (Le.boolT (t := 154) rfl (decide_eq_true rfl)) ?_
     refine VO.val rfl rfl (OpV.pickT rfl rfl rfl rfl rfl) ?_
     refine VO.mv rfl rfl rfl rfl ?_
     refine VO.opY rfl rfl rfl rfl rfl ?_
     refine OpE.val (W := NoB) (OpV.move (.inl rfl) rfl) rfl ?_
     refine VO.opY rfl rfl rfl rfl rfl ?_
     refine OpE.val (W := NoB) (OpV.move (.inl rfl) rfl) rfl ?_
     refine VO.opY rfl rfl rfl rfl rfl ?_
     refine OpE.call rfl hB rfl Tryz.call42 rfl (SpecN.spec (slices_Equal_win (by omega) (by first | omega | decide))) ?_
     rintro _ rfl
     refine VO.le _ (Le.boolT (t := 159) rfl (by rw [y2]; first | exact eqLs_self eqWn_self _ | rfl)) ?_
     refine VO.val rfl rfl (OpV.pickT rfl rfl rfl rfl rfl) ?_
     refine VO.mv rfl rfl rfl rfl ?_
     refine VO.opY rfl rfl rfl rfl rfl ?_
     refine OpE.val (W := NoB) (OpV.move (.inl rfl) rfl) rfl ?_
     refine VO.opY rfl rfl rfl rfl rfl ?_
     refine OpE.val (W := NoB) (OpV.move (.inl rfl) rfl) rfl ?_
     refine VO.opY rfl rfl rfl rfl rfl ?_
     refine OpE.val (W := NoB) (OpV.eql rfl rfl rfl) rfl ?_
     refine VO.le _ (Le.boolT (t := 164) rfl (decide_eq_true rfl)) ?_
     refine VO.val rfl rfl (OpV.pickT rfl rfl rfl rfl rfl) ?_
     refine VO.mv rfl rfl rfl rfl ?_
     refine VO.opY rfl rfl rfl rfl rfl ?_
     refine OpE.val (W := NoB) (OpV.move (.inl rfl) rfl) rfl ?_
     refine VO.opY rfl rfl rfl rfl rfl ?_
     refine OpE.val (W := NoB) (OpV.move (.inl rfl) rfl) rfl ?_
     refine VO.opY rfl rfl rfl rfl rfl ?_
     refine OpE.val (W := NoB) (OpV.eql rfl rfl rfl) rfl ?_
     refine VO.le _ (Le.boolT (t := 169) rfl (decide_eq_true y3)) ?_
     refine VO.val rfl rfl (OpV.pickT rfl rfl rfl rfl rfl) ?_
     refine VO.mv rfl rfl rfl rfl ?_
     refine VO.opY rfl rfl rfl rfl rfl ?_
     refine OpE.val (W := NoB) (OpV.move (.inl rfl) rfl) rfl ?_
     refine VO.opY rfl rfl rfl rfl rfl ?_
     refine OpE.val (W := NoB) (OpV.move (.inl rfl) rfl) rfl ?_
     refine VO.opY rfl rfl rfl rfl rfl ?_
     refine OpE.val (W := NoB) (OpV.eql rfl rfl rfl) rfl ?_
     refine VO.le _ (Le.boolT (t := 174) rfl (decide_eq_true y4)) ?_
     refine VO.val rfl rfl (OpV.pickT rfl rfl rfl rfl rfl) ?_
     refine VO.mv rfl rfl rfl rfl ?_
     refine VO.opY rfl rfl rfl rfl rfl ?_
     refine OpE.call rfl hB rfl Tryz.call29 rfl (SpecN.spec (rl_planned)) ?_
     rintro _ rfl
     refine VO.val rfl rfl (OpV.pickT rfl rfl rfl rfl rfl) ?_
     refine VO.ma rfl rfl rfl rfl ?_
     refine VO.nil ?_
     refine VC.ret ?_
     exact And.intro rfl rfl
    ·have h1 := h1b
     try simp only [qqT, qqF, qqN, qqM, qqL, qqE] at h1
     have y2 := (sched_no h1).1
     have y3 := (sched_no h1).2.1
     have y4 := (sched_no h1).2.2
     refine VC.skip ?_
     refine VC.sr ?_
     refine VO.mv rfl rfl rfl rfl ?_
     refine VO.mv rfl rfl rfl rfl ?_
     refine VO.val rfl rfl (OpV.eql rfl rfl rfl) ?_
     refine VO.le _ (Le.boolT (t := 145) rfl (decide_eq_true rfl)) ?_
     refine VO.mv rfl rfl rfl rfl ?_
     refine VO.opY rfl rfl rfl rfl rfl ?_
     refine OpE.val (W := NoB) (OpV.move (.inl rfl) rfl) rfl ?_
     refine VO.opY rfl rfl rfl rfl rfl ?_
     refine OpE.val (W := NoB) (OpV.move (.inl rfl) rfl) rfl ?_
     refine VO.opY rfl rfl rfl rfl rfl ?_
     refine OpE.val (W := NoB) (OpV.eql rfl rfl rfl) rfl ?_
     refine VO.le _ (Le.boolT (t := 149) rfl (decide_eq_true y1)) ?_
     refine VO.val rfl rfl (OpV.pickT rfl rfl rfl rfl rfl) ?_
     refine VO.mv rfl rfl rfl rfl ?_
     refine VO.opY rfl rfl rfl rfl rfl ?_
     refine OpE.val (W := NoB) (OpV.move (.inl rfl) rfl) rfl ?_
     refine VO.opY rfl rfl rfl rfl rfl ?_
     refine OpE.val (W := NoB) (OpV.move (.inl rfl) rfl) rfl ?_
     refine VO.opY rfl rfl rfl rfl rfl ?_
     refine OpE.val (W := NoB) (OpV.eql rfl rfl rfl) rfl ?_
     refine VO.le _ (Le.boolT (t := 154) rfl (decide_eq_true rfl)) ?_
     refine VO.val rfl rfl (OpV.pickT rfl rfl rfl rfl rfl) ?_
     refine VO.mv rfl rfl rfl rfl ?_
     refine VO.opY rfl rfl rfl rfl rfl ?_
     refine OpE.val (W := NoB) (OpV.move (.inl rfl) rfl) rfl ?_
     refine VO.opY rfl rfl rfl rfl rfl ?_
     refine OpE.val (W := NoB) (OpV.move (.inl rfl) rfl) rfl ?_
     refine VO.opY rfl rfl rfl rfl rfl ?_
     refine OpE.call rfl hB rfl Tryz.call42 rfl (SpecN.spec (slices_Equal_win (by omega) (by first | omega | decide))) ?_
     rintro _ rfl
     refine VO.le _ (Le.boolT (t := 159) rfl (by rw [y2]; first | exact eqLs_self eqWn_self _ | rfl)) ?_
     refine VO.val rfl rfl (OpV.pickT rfl rfl rfl rfl rfl) ?_
     refine VO.mv rfl rfl rfl rfl ?_
     refine VO.opY rfl rfl rfl rfl rfl ?_
     refine OpE.val (W := NoB) (OpV.move (.inl rfl) rfl) rfl ?_
     refine VO.opY rfl rfl rfl rfl rfl ?_
     refine OpE.val (W := NoB) (OpV.move (.inl rfl) rfl) rfl ?_
     refine VO.opY rfl rfl rfl rfl rfl ?_
     refine OpE.val (W := NoB) (OpV.eql rfl rfl rfl) rfl ?_
     refine VO.le _ (Le.boolT (t := 164) rfl (decide_eq_true rfl)) ?_
     refine VO.val rfl rfl (OpV.pickT rfl rfl rfl rfl rfl) ?_
     refine VO.mv rfl rfl rfl rfl ?_
     refine VO.opY rfl rfl rfl rfl rfl ?_
     refine OpE.val (W := NoB) (OpV.move (.inl rfl) rfl) rfl ?_
     refine VO.opY rfl rfl rfl rfl rfl ?_
     refine OpE.val (W := NoB) (OpV.move (.inl rfl) rfl) rfl ?_
     refine VO.opY rfl rfl rfl rfl rfl ?_
     refine OpE.val (W := NoB) (OpV.eql rfl rfl rfl) rfl ?_
     refine VO.le _ (Le.boolT (t := 169) rfl (decide_eq_true y3)) ?_
     refine VO.val rfl rfl (OpV.pickT rfl rfl rfl rfl rfl) ?_
     refine VO.mv rfl rfl rfl rfl ?_
     refine VO.opY rfl rfl rfl rfl rfl ?_
     refine OpE.val (W := NoB) (OpV.move (.inl rfl) rfl) rfl ?_
     refine VO.opY rfl rfl rfl rfl rfl ?_
     refine OpE.val (W := NoB) (OpV.move (.inl rfl) rfl) rfl ?_
     refine VO.opY rfl rfl rfl rfl rfl ?_
     refine OpE.val (W := NoB) (OpV.eql rfl rfl rfl) rfl ?_
     refine VO.le _ (Le.boolT (t := 174) rfl (decide_eq_true y4)) ?_
     refine VO.val rfl rfl (OpV.pickT rfl rfl rfl rfl rfl) ?_
     refine VO.mv rfl rfl rfl rfl ?_
     refine VO.opY rfl rfl rfl rfl rfl ?_
     refine OpE.call rfl hB rfl Tryz.call29 rfl (SpecN.spec (rl_planned)) ?_
     rintro _ rfl
     refine VO.val rfl rfl (OpV.pickT rfl rfl rfl rfl rfl) ?_
     refine VO.ma rfl rfl rfl rfl ?_
     refine VO.nil ?_
     refine VC.ret ?_
     exact And.intro rfl rfl
   ·have h0 := h0b
    try simp only [qqT, qqF, qqN, qqM, qqL, qqE] at h0
    have y1 := chgV_no h0
    refine VC.skip ?_
    refine VC.sr ?_
    refine VO.ma rfl rfl rfl rfl ?_
    first | refine VO.le _ (Le.recast (t := 27) (y := avL ([] : List WinS)) rfl (fun w Z u h => by rw [h.eq_v]; exact .nil _ _)) ?_ | skip
    refine VO.nil ?_
    refine VC.seq ?_
    refine VC.seq ?_
    have y5 := timesR_len p o l r41 r44
    have y6 := timesQ_len p o l r41 r44 l.length
    refine VC.region ?_
    refine VO.mv rfl rfl rfl rfl ?_
    refine VO.val rfl rfl (OpV.eql rfl rfl rfl) ?_
    refine VO.nil ?_
    refine VC.cond rfl (fun h1b => ?_) (fun h1b => ?_)
    ·have h1 := h1b
     try simp only [qqT, qqF, qqN, qqM, qqL, qqE] at h1
     have hk := schOk h1
     have y2 := (sched_ok h1).1
     have y3 := (sched_ok h1).2.1
     have y4 := (sched_ok h1).2.2
     refine VC.sr ?_
     refine VO.mv rfl rfl rfl rfl ?_
     refine VO.mv rfl rfl rfl rfl ?_
     refine VO.mv rfl rfl rfl rfl ?_
     refine VO.mv rfl rfl rfl rfl ?_
     refine VO.mv rfl rfl rfl rfl ?_
     refine VO.op rfl (OpE.call rfl hB rfl Tryz.call40 rfl (SpecN.spec (rf_TimesOf hps hk)) ?_)
     rintro _ rfl
     refine VO.ma rfl rfl rfl rfl ?_
     first | refine VO.le _ (Le.recast (t := 27) (y := avL ([] : List WinS)) rfl (fun w Z u h => by rw [h.eq_v]; exact .nil _ _)) ?_ | skip
     refine VO.nil ?_
     refine VC.region ?_
     refine VO.mv rfl rfl rfl rfl ?_
     refine VO.mv rfl rfl rfl rfl ?_
     refine VO.mv rfl rfl rfl rfl ?_
     refine VO.mv rfl rfl rfl rfl ?_
     refine VO.mv rfl rfl rfl rfl ?_
     refine VO.op rfl (OpE.call rfl hB rfl Tryz.call41 rfl (SpecN.spec (rf_LateOf hps hk)) ?_)
     rintro _ rfl
     refine VO.mv rfl rfl rfl rfl ?_
     refine VO.val rfl rfl (OpV.extract rfl rfl rfl) ?_
     refine VO.val rfl rfl (OpV.extract rfl rfl rfl) ?_
     refine VO.ma rfl rfl rfl rfl ?_
     refine VO.ma rfl rfl rfl rfl ?_
     refine VO.nil ?_
     refine VC.sr ?_
     refine VO.mv rfl rfl rfl rfl ?_
     refine VO.mv rfl rfl rfl rfl ?_
     refine VO.val rfl rfl (OpV.eql rfl rfl rfl) ?_
     refine VO.le _ (Le.boolT (t := 145) rfl (decide_eq_true rfl)) ?_
     refine VO.mv rfl rfl rfl rfl ?_
     refine VO.opY rfl rfl rfl rfl rfl ?_
     refine OpE.val (W := NoB) (OpV.move (.inl rfl) rfl) rfl ?_
     refine VO.opY rfl rfl rfl rfl rfl ?_
     refine OpE.val (W := NoB) (OpV.move (.inl rfl) rfl) rfl ?_
     refine VO.opY rfl rfl rfl rfl rfl ?_
     refine OpE.val (W := NoB) (OpV.eql rfl rfl rfl) rfl ?_
     refine VO.le _ (Le.boolT (t := 149) rfl (decide_eq_true y1)) ?_
     refine VO.val rfl rfl (OpV.pickT rfl rfl rfl rfl rfl) ?_
     refine VO.mv rfl rfl rfl rfl ?_
     refine VO.opY rfl rfl rfl rfl rfl ?_
     refine OpE.val (W := NoB) (OpV.move (.inl rfl) rfl) rfl ?_
     refine VO.opY rfl rfl rfl rfl rfl ?_
     refine OpE.val (W := NoB) (OpV.move (.inl rfl) rfl) rfl ?_
     refine VO.opY rfl rfl rfl rfl rfl ?_
     refine OpE.val (W := NoB) (OpV.eql rfl rfl rfl) rfl ?_
     refine VO.le _ (Le.boolT (t := 154) rfl (decide_eq_true rfl)) ?_
     refine VO.val rfl rfl (OpV.pickT rfl rfl rfl rfl rfl) ?_
     refine VO.mv rfl rfl rfl rfl ?_
     refine VO.opY rfl rfl rfl rfl rfl ?_
     refine OpE.val (W := NoB) (OpV.move (.inl rfl) rfl) rfl ?_
     refine VO.opY rfl rfl rfl rfl rfl ?_
     refine OpE.val (W := NoB) (OpV.move (.inl rfl) rfl) rfl ?_
     refine VO.opY rfl rfl rfl rfl rfl ?_
     refine OpE.call rfl hB rfl Tryz.call42 rfl (SpecN.spec (slices_Equal_win (by omega) (by first | omega | decide))) ?_
     rintro _ rfl
     refine VO.le _ (Le.boolT (t := 159) rfl (by rw [y2]; first | exact eqLs_self eqWn_self _ | rfl)) ?_
     refine VO.val rfl rfl (OpV.pickT rfl rfl rfl rfl rfl) ?_
     refine VO.mv rfl rfl rfl rfl ?_
     refine VO.opY rfl rfl rfl rfl rfl ?_
     refine OpE.val (W := NoB) (OpV.move (.inl rfl) rfl) rfl ?_
     refine VO.opY rfl rfl rfl rfl rfl ?_
     refine OpE.val (W := NoB) (OpV.move (.inl rfl) rfl) rfl ?_
     refine VO.opY rfl rfl rfl rfl rfl ?_
     refine OpE.val (W := NoB) (OpV.eql rfl rfl rfl) rfl ?_
     refine VO.le _ (Le.boolT (t := 164) rfl (decide_eq_true rfl)) ?_
     refine VO.val rfl rfl (OpV.pickT rfl rfl rfl rfl rfl) ?_
     refine VO.mv rfl rfl rfl rfl ?_
     refine VO.opY rfl rfl rfl rfl rfl ?_
     refine OpE.val (W := NoB) (OpV.move (.inl rfl) rfl) rfl ?_
     refine VO.opY rfl rfl rfl rfl rfl ?_
     refine OpE.val (W := NoB) (OpV.move (.inl rfl) rfl) rfl ?_
     refine VO.opY rfl rfl rfl rfl rfl ?_
     refine OpE.val (W := NoB) (OpV.eql rfl rfl rfl) rfl ?_
     refine VO.le _ (Le.boolT (t := 169) rfl (decide_eq_true y3)) ?_
     refine VO.val rfl rfl (OpV.pickT rfl rfl rfl rfl rfl) ?_
     refine VO.mv rfl rfl rfl rfl ?_
     refine VO.opY rfl rfl rfl rfl rfl ?_
     refine OpE.val (W := NoB) (OpV.move (.inl rfl) rfl) rfl ?_
     refine VO.opY rfl rfl rfl rfl rfl ?_
     refine OpE.val (W := NoB) (OpV.move (.inl rfl) rfl) rfl ?_
     refine VO.opY rfl rfl rfl rfl rfl ?_
     refine OpE.val (W := NoB) (OpV.eql rfl rfl rfl) rfl ?_
     refine VO.le _ (Le.boolT (t := 174) rfl (decide_eq_true y4)) ?_
     refine VO.val rfl rfl (OpV.pickT rfl rfl rfl rfl rfl) ?_
     refine VO.mv rfl rfl rfl rfl ?_
     refine VO.opY rfl rfl rfl rfl rfl ?_
     refine OpE.call rfl hB rfl Tryz.call29 rfl (SpecN.spec (rl_planned)) ?_
     rintro _ rfl
     refine VO.val rfl rfl (OpV.pickT rfl rfl rfl rfl rfl) ?_
     refine VO.ma rfl rfl rfl rfl ?_
     refine VO.nil ?_
     refine VC.ret ?_
     exact And.intro rfl rfl
    ·have h1 := h1b
     try simp only [qqT, qqF, qqN, qqM, qqL, qqE] at h1
     have y2 := (sched_no h1).1
     have y3 := (sched_no h1).2.1
     have y4 := (sched_no h1).2.2
     refine VC.skip ?_
     refine VC.sr ?_
     refine VO.mv rfl rfl rfl rfl ?_
     refine VO.mv rfl rfl rfl rfl ?_
     refine VO.val rfl rfl (OpV.eql rfl rfl rfl) ?_
     refine VO.le _ (Le.boolT (t := 145) rfl (decide_eq_true rfl)) ?_
     refine VO.mv rfl rfl rfl rfl ?_
     refine VO.opY rfl rfl rfl rfl rfl ?_
     refine OpE.val (W := NoB) (OpV.move (.inl rfl) rfl) rfl ?_
     refine VO.opY rfl rfl rfl rfl rfl ?_
     refine OpE.val (W := NoB) (OpV.move (.inl rfl) rfl) rfl ?_
     refine VO.opY rfl rfl rfl rfl rfl ?_
     refine OpE.val (W := NoB) (OpV.eql rfl rfl rfl) rfl ?_
     refine VO.le _ (Le.boolT (t := 149) rfl (decide_eq_true y1)) ?_
     refine VO.val rfl rfl (OpV.pickT rfl rfl rfl rfl rfl) ?_
     refine VO.mv rfl rfl rfl rfl ?_
     refine VO.opY rfl rfl rfl rfl rfl ?_
     refine OpE.val (W := NoB) (OpV.move (.inl rfl) rfl) rfl ?_
     refine VO.opY rfl rfl rfl rfl rfl ?_
     refine OpE.val (W := NoB) (OpV.move (.inl rfl) rfl) rfl ?_
     refine VO.opY rfl rfl rfl rfl rfl ?_
     refine OpE.val (W := NoB) (OpV.eql rfl rfl rfl) rfl ?_
     refine VO.le _ (Le.boolT (t := 154) rfl (decide_eq_true rfl)) ?_
     refine VO.val rfl rfl (OpV.pickT rfl rfl rfl rfl rfl) ?_
     refine VO.mv rfl rfl rfl rfl ?_
     refine VO.opY rfl rfl rfl rfl rfl ?_
     refine OpE.val (W := NoB) (OpV.move (.inl rfl) rfl) rfl ?_
     refine VO.opY rfl rfl rfl rfl rfl ?_
     refine OpE.val (W := NoB) (OpV.move (.inl rfl) rfl) rfl ?_
     refine VO.opY rfl rfl rfl rfl rfl ?_
     refine OpE.call rfl hB rfl Tryz.call42 rfl (SpecN.spec (slices_Equal_win (by omega) (by first | omega | decide))) ?_
     rintro _ rfl
     refine VO.le _ (Le.boolT (t := 159) rfl (by rw [y2]; first | exact eqLs_self eqWn_self _ | rfl)) ?_
     refine VO.val rfl rfl (OpV.pickT rfl rfl rfl rfl rfl) ?_
     refine VO.mv rfl rfl rfl rfl ?_
     refine VO.opY rfl rfl rfl rfl rfl ?_
     refine OpE.val (W := NoB) (OpV.move (.inl rfl) rfl) rfl ?_
     refine VO.opY rfl rfl rfl rfl rfl ?_
     refine OpE.val (W := NoB) (OpV.move (.inl rfl) rfl) rfl ?_
     refine VO.opY rfl rfl rfl rfl rfl ?_
     refine OpE.val (W := NoB) (OpV.eql rfl rfl rfl) rfl ?_
     refine VO.le _ (Le.boolT (t := 164) rfl (decide_eq_true rfl)) ?_
     refine VO.val rfl rfl (OpV.pickT rfl rfl rfl rfl rfl) ?_
     refine VO.mv rfl rfl rfl rfl ?_
     refine VO.opY rfl rfl rfl rfl rfl ?_
     refine OpE.val (W := NoB) (OpV.move (.inl rfl) rfl) rfl ?_
     refine VO.opY rfl rfl rfl rfl rfl ?_
     refine OpE.val (W := NoB) (OpV.move (.inl rfl) rfl) rfl ?_
     refine VO.opY rfl rfl rfl rfl rfl ?_
     refine OpE.val (W := NoB) (OpV.eql rfl rfl rfl) rfl ?_
     refine VO.le _ (Le.boolT (t := 169) rfl (decide_eq_true y3)) ?_
     refine VO.val rfl rfl (OpV.pickT rfl rfl rfl rfl rfl) ?_
     refine VO.mv rfl rfl rfl rfl ?_
     refine VO.opY rfl rfl rfl rfl rfl ?_
     refine OpE.val (W := NoB) (OpV.move (.inl rfl) rfl) rfl ?_
     refine VO.opY rfl rfl rfl rfl rfl ?_
     refine OpE.val (W := NoB) (OpV.move (.inl rfl) rfl) rfl ?_
     refine VO.opY rfl rfl rfl rfl rfl ?_
     refine OpE.val (W := NoB) (OpV.eql rfl rfl rfl) rfl ?_
     refine VO.le _ (Le.boolT (t := 174) rfl (decide_eq_true y4)) ?_
     refine VO.val rfl rfl (OpV.pickT rfl rfl rfl rfl rfl) ?_
     refine VO.mv rfl rfl rfl rfl ?_
     refine VO.opY rfl rfl rfl rfl rfl ?_
     refine OpE.call rfl hB rfl Tryz.call29 rfl (SpecN.spec (rl_planned)) ?_
     rintro _ rfl
     refine VO.val rfl rfl (OpV.pickT rfl rfl rfl rfl rfl) ?_
     refine VO.ma rfl rfl rfl rfl ?_
     refine VO.nil ?_
     refine VC.ret ?_
     exact And.intro rfl rfl
 ·replace aK1b : _ = true := aK1b
  have aK1 := aK1b
  try simp only [qqT, qqF, qqN, qqM, qqL, qqE] at aK1
  refine VO.opX rfl rfl rfl rfl aK1b ?_
  refine VO.val rfl rfl (OpV.pickT rfl rfl rfl rfl aK1b) ?_
  refine VO.op rfl (OpE.call rfl hB rfl Tryz.call37 rfl (SpecN.spec (rl_when)) ?_)
  rintro _ rfl
  refine VO.le _ (Le.recast (t := 98) (y := avI (if outR r44 0 10000000 = true then 1 else 0)) rfl (fun w Z u h => by simpa [outR, *] using h)) ?_
  refine VO.mv rfl rfl rfl rfl ?_
  refine VO.val rfl rfl (OpV.not rfl rfl) ?_
  refine VO.mv rfl rfl rfl rfl ?_
  refine VO.opG rfl rfl rfl rfl (fun aK3b => ?_) (fun aK3b => ?_)
  ·replace aK3b : _ = false := aK3b
   have aK3 := aK3b
   try simp only [qqT, qqF, qqN, qqM, qqL, qqE] at aK3
   refine OpE.val (W := NoB) (OpV.move (.inl rfl) rfl) rfl ?_
   refine VO.opY rfl rfl rfl rfl aK3b ?_
   refine OpE.val (W := NoB) (OpV.not rfl rfl) rfl ?_
   refine VO.val rfl rfl (OpV.pickF rfl rfl rfl rfl aK3b) ?_
   refine VO.op rfl (OpE.call rfl hB rfl Tryz.call37 rfl (SpecN.spec (rl_when)) ?_)
   rintro _ rfl
   refine VO.le _ (Le.recast (t := 105) (y := avI (if (hasP p r47 && hasP p r50) = true then 0 else 8)) rfl (fun w Z u h => by cases h1 : hasP p r47 <;> cases h2 : hasP p r50 <;> simp_all)) ?_
   refine VO.op rfl (OpE.buildSlice (zc := #[.int .i64 0, .int .i64 0, .int .i64 0]) rfl hB rfl Tryz.underlying130 Tryz.sizeOf38 Tryz.zeroValue38 (by decide) (by decide) (by kernel_rfl) rfl rfl ?_)
   refine VO.le _ (Le.lits (t := 106) (xs := [paceF p, if outR r44 0 10000000 = true then 1 else 0, if (hasP p r47 && hasP p r50) = true then 0 else 8]) rfl rfl) ?_
   refine VO.op rfl (OpE.call rfl hB rfl Tryz.call23 rfl (SpecN.spec (rl_errs (by simp))) ?_)
   rintro _ rfl
   refine VO.le _ (Le.recast (t := 107) (y := avI (chgE p r47 r50 r44)) rfl (fun w Z u h => by rw [← oneE_eq]; exact h)) ?_
   refine VO.ma rfl rfl rfl rfl ?_
   refine VO.nil ?_
   refine VC.sr ?_
   refine VO.mv rfl rfl rfl rfl ?_
   refine VO.mv rfl rfl rfl rfl ?_
   refine VO.op rfl (OpE.call rfl hB rfl Tryz.call24 rfl (SpecN.spec (rf_BothFault hps hos)) ?_)
   rintro _ rfl
   refine VO.mv rfl rfl rfl rfl ?_
   refine VO.mv rfl rfl rfl rfl ?_
   refine VO.op rfl (OpE.call rfl hB rfl Tryz.call38 rfl (SpecN.spec (rf_ScheduleFault (by omega) (by omega))) ?_)
   rintro _ rfl
   refine VO.mv rfl rfl rfl rfl ?_
   refine VO.mv rfl rfl rfl rfl ?_
   refine VO.op rfl (OpE.call rfl hB rfl Tryz.call25 rfl (SpecN.spec (rf_StartFault)) ?_)
   rintro _ rfl
   refine VO.op rfl (OpE.buildSlice (zc := #[.int .i64 0, .int .i64 0, .int .i64 0]) rfl hB rfl Tryz.underlying130 Tryz.sizeOf38 Tryz.zeroValue38 (by decide) (by decide) (by kernel_rfl) rfl rfl ?_)
   refine VO.le _ (Le.lits (t := 117) (xs := [bothF p o, schF o.length l, startF r41 r44]) rfl rfl) ?_
   refine VO.op rfl (OpE.call rfl hB rfl Tryz.call23 rfl (SpecN.spec (rl_errs (by simp))) ?_)
   rintro _ rfl
   refine VO.le _ (Le.recast (t := 118) (y := avI (scheF p o l r41 r44)) rfl (fun w Z u h => by rw [← twoE_eq]; exact h)) ?_
   refine VO.ma rfl rfl rfl rfl ?_
   refine VO.nil ?_
   refine VC.sr ?_
   refine VO.ma rfl rfl rfl rfl ?_
   refine VO.ma rfl rfl rfl rfl ?_
   refine VO.ma rfl rfl rfl rfl ?_
   refine VO.nil ?_
   refine VC.seq ?_
   refine VC.sr ?_
   refine VO.mv rfl rfl rfl rfl ?_
   refine VO.val rfl rfl (OpV.eql rfl rfl rfl) ?_
   refine VO.nil ?_
   refine VC.cond rfl (fun h0b => ?_) (fun h0b => ?_)
   ·have h0 := h0b
    try simp only [qqT, qqF, qqN, qqM, qqL, qqE] at h0
    have z0 := chgE_zero h0
    have y1 := chgV_ok h0
    refine VC.region ?_
    refine VO.mv rfl rfl rfl rfl ?_
    refine VO.mv rfl rfl rfl rfl ?_
    refine VO.mv rfl rfl rfl rfl ?_
    refine VO.mv rfl rfl rfl rfl ?_
    refine VO.op rfl (OpE.call rfl hB rfl Tryz.call39 rfl (SpecN.spec (rf_ChangeoverOf hps z0)) ?_)
    rintro _ rfl
    refine VO.ma rfl rfl rfl rfl ?_
    refine VO.nil ?_
    refine VC.sr ?_
    refine VO.ma rfl rfl rfl rfl ?_
    first | refine VO.le _ (Le.recast (t := 27) (y := avL ([] : List WinS)) rfl (fun w Z u h => by rw [h.eq_v]; exact .nil _ _)) ?_ | skip
    refine VO.nil ?_
    refine VC.seq ?_
    refine VC.seq ?_
    have y5 := timesR_len p o l r41 r44
    have y6 := timesQ_len p o l r41 r44 l.length
    refine VC.region ?_
    refine VO.mv rfl rfl rfl rfl ?_
    refine VO.val rfl rfl (OpV.eql rfl rfl rfl) ?_
    refine VO.nil ?_
    refine VC.cond rfl (fun h1b => ?_) (fun h1b => ?_)
    ·have h1 := h1b
     try simp only [qqT, qqF, qqN, qqM, qqL, qqE] at h1
     have hk := schOk h1
     have y2 := (sched_ok h1).1
     have y3 := (sched_ok h1).2.1
     have y4 := (sched_ok h1).2.2
     refine VC.sr ?_
     refine VO.mv rfl rfl rfl rfl ?_
     refine VO.mv rfl rfl rfl rfl ?_
     refine VO.mv rfl rfl rfl rfl ?_
     refine VO.mv rfl rfl rfl rfl ?_
     refine VO.mv rfl rfl rfl rfl ?_
     refine VO.op rfl (OpE.call rfl hB rfl Tryz.call40 rfl (SpecN.spec (rf_TimesOf hps hk)) ?_)
     rintro _ rfl
     refine VO.ma rfl rfl rfl rfl ?_
     first | refine VO.le _ (Le.recast (t := 27) (y := avL ([] : List WinS)) rfl (fun w Z u h => by rw [h.eq_v]; exact .nil _ _)) ?_ | skip
     refine VO.nil ?_
     refine VC.region ?_
     refine VO.mv rfl rfl rfl rfl ?_
     refine VO.mv rfl rfl rfl rfl ?_
     refine VO.mv rfl rfl rfl rfl ?_
     refine VO.mv rfl rfl rfl rfl ?_
     refine VO.mv rfl rfl rfl rfl ?_
     refine VO.op rfl (OpE.call rfl hB rfl Tryz.call41 rfl (SpecN.spec (rf_LateOf hps hk)) ?_)
     rintro _ rfl
     refine VO.mv rfl rfl rfl rfl ?_
     refine VO.val rfl rfl (OpV.extract rfl rfl rfl) ?_
     refine VO.val rfl rfl (OpV.extract rfl rfl rfl) ?_
     refine VO.ma rfl rfl rfl rfl ?_
     refine VO.ma rfl rfl rfl rfl ?_
     refine VO.nil ?_
     refine VC.sr ?_
     refine VO.mv rfl rfl rfl rfl ?_
     refine VO.mv rfl rfl rfl rfl ?_
     refine VO.val rfl rfl (OpV.eql rfl rfl rfl) ?_
     refine VO.le _ (Le.boolT (t := 145) rfl (decide_eq_true rfl)) ?_
     refine VO.mv rfl rfl rfl rfl ?_
     refine VO.opY rfl rfl rfl rfl rfl ?_
     refine OpE.val (W := NoB) (OpV.move (.inl rfl) rfl) rfl ?_
     refine VO.opY rfl rfl rfl rfl rfl ?_
     refine OpE.val (W := NoB) (OpV.move (.inl rfl) rfl) rfl ?_
     refine VO.opY rfl rfl rfl rfl rfl ?_
     refine OpE.val (W := NoB) (OpV.eql rfl rfl rfl) rfl ?_
     refine VO.le _ (Le.boolT (t := 149) rfl (decide_eq_true y1)) ?_
     refine VO.val rfl rfl (OpV.pickT rfl rfl rfl rfl rfl) ?_
     refine VO.mv rfl rfl rfl rfl ?_
     refine VO.opY rfl rfl rfl rfl rfl ?_
     refine OpE.val (W := NoB) (OpV.move (.inl rfl) rfl) rfl ?_
     refine VO.opY rfl rfl rfl rfl rfl ?_
     refine OpE.val (W := NoB) (OpV.move (.inl rfl) rfl) rfl ?_
     refine VO.opY rfl rfl rfl rfl rfl ?_
     refine OpE.val (W := NoB) (OpV.eql rfl rfl rfl) rfl ?_
     refine VO.le _ (Le.boolT (t := 154) rfl (decide_eq_true rfl)) ?_
     refine VO.val rfl rfl (OpV.pickT rfl rfl rfl rfl rfl) ?_
     refine VO.mv rfl rfl rfl rfl ?_
     refine VO.opY rfl rfl rfl rfl rfl ?_
     refine OpE.val (W := NoB) (OpV.move (.inl rfl) rfl) rfl ?_
     refine VO.opY rfl rfl rfl rfl rfl ?_
     refine OpE.val (W := NoB) (OpV.move (.inl rfl) rfl) rfl ?_
     refine VO.opY rfl rfl rfl rfl rfl ?_
     refine OpE.call rfl hB rfl Tryz.call42 rfl (SpecN.spec (slices_Equal_win (by omega) (by first | omega | decide))) ?_
     rintro _ rfl
     refine VO.le _ (Le.boolT (t := 159) rfl (by rw [y2]; first | exact eqLs_self eqWn_self _ | rfl)) ?_
     refine VO.val rfl rfl (OpV.pickT rfl rfl rfl rfl rfl) ?_
     refine VO.mv rfl rfl rfl rfl ?_
     refine VO.opY rfl rfl rfl rfl rfl ?_
     refine OpE.val (W := NoB) (OpV.move (.inl rfl) rfl) rfl ?_
     refine VO.opY rfl rfl rfl rfl rfl ?_
     refine OpE.val (W := NoB) (OpV.move (.inl rfl) rfl) rfl ?_
     refine VO.opY rfl rfl rfl rfl rfl ?_
     refine OpE.val (W := NoB) (OpV.eql rfl rfl rfl) rfl ?_
     refine VO.le _ (Le.boolT (t := 164) rfl (decide_eq_true rfl)) ?_
     refine VO.val rfl rfl (OpV.pickT rfl rfl rfl rfl rfl) ?_
     refine VO.mv rfl rfl rfl rfl ?_
     refine VO.opY rfl rfl rfl rfl rfl ?_
     refine OpE.val (W := NoB) (OpV.move (.inl rfl) rfl) rfl ?_
     refine VO.opY rfl rfl rfl rfl rfl ?_
     refine OpE.val (W := NoB) (OpV.move (.inl rfl) rfl) rfl ?_
     refine VO.opY rfl rfl rfl rfl rfl ?_
     refine OpE.val (W := NoB) (OpV.eql rfl rfl rfl) rfl ?_
     refine VO.le _ (Le.boolT (t := 169) rfl (decide_eq_true y3)) ?_
     refine VO.val rfl rfl (OpV.pickT rfl rfl rfl rfl rfl) ?_
     refine VO.mv rfl rfl rfl rfl ?_
     refine VO.opY rfl rfl rfl rfl rfl ?_
     refine OpE.val (W := NoB) (OpV.move (.inl rfl) rfl) rfl ?_
     refine VO.opY rfl rfl rfl rfl rfl ?_
     refine OpE.val (W := NoB) (OpV.move (.inl rfl) rfl) rfl ?_
     refine VO.opY rfl rfl rfl rfl rfl ?_
     refine OpE.val (W := NoB) (OpV.eql rfl rfl rfl) rfl ?_
     refine VO.le _ (Le.boolT (t := 174) rfl (decide_eq_true y4)) ?_
     refine VO.val rfl rfl (OpV.pickT rfl rfl rfl rfl rfl) ?_
     refine VO.mv rfl rfl rfl rfl ?_
     refine VO.opY rfl rfl rfl rfl rfl ?_
     refine OpE.call rfl hB rfl Tryz.call29 rfl (SpecN.spec (rl_planned)) ?_
     rintro _ rfl
     refine VO.val rfl rfl (OpV.pickT rfl rfl rfl rfl rfl) ?_
     refine VO.ma rfl rfl rfl rfl ?_
     refine VO.nil ?_
     refine VC.ret ?_
     exact And.intro rfl rfl
    ·have h1 := h1b
     try simp only [qqT, qqF, qqN, qqM, qqL, qqE] at h1
     have y2 := (sched_no h1).1
     have y3 := (sched_no h1).2.1
     have y4 := (sched_no h1).2.2
     refine VC.skip ?_
     refine VC.sr ?_
     refine VO.mv rfl rfl rfl rfl ?_
     refine VO.mv rfl rfl rfl rfl ?_
     refine VO.val rfl rfl (OpV.eql rfl rfl rfl) ?_
     refine VO.le _ (Le.boolT (t := 145) rfl (decide_eq_true rfl)) ?_
     refine VO.mv rfl rfl rfl rfl ?_
     refine VO.opY rfl rfl rfl rfl rfl ?_
     refine OpE.val (W := NoB) (OpV.move (.inl rfl) rfl) rfl ?_
     refine VO.opY rfl rfl rfl rfl rfl ?_
     refine OpE.val (W := NoB) (OpV.move (.inl rfl) rfl) rfl ?_
     refine VO.opY rfl rfl rfl rfl rfl ?_
     refine OpE.val (W := NoB) (OpV.eql rfl rfl rfl) rfl ?_
     refine VO.le _ (Le.boolT (t := 149) rfl (decide_eq_true y1)) ?_
     refine VO.val rfl rfl (OpV.pickT rfl rfl rfl rfl rfl) ?_
     refine VO.mv rfl rfl rfl rfl ?_
     refine VO.opY rfl rfl rfl rfl rfl ?_
     refine OpE.val (W := NoB) (OpV.move (.inl rfl) rfl) rfl ?_
     refine VO.opY rfl rfl rfl rfl rfl ?_
     refine OpE.val (W := NoB) (OpV.move (.inl rfl) rfl) rfl ?_
     refine VO.opY rfl rfl rfl rfl rfl ?_
     refine OpE.val (W := NoB) (OpV.eql rfl rfl rfl) rfl ?_
     refine VO.le _ (Le.boolT (t := 154) rfl (decide_eq_true rfl)) ?_
     refine VO.val rfl rfl (OpV.pickT rfl rfl rfl rfl rfl) ?_
     refine VO.mv rfl rfl rfl rfl ?_
     refine VO.opY rfl rfl rfl rfl rfl ?_
     refine OpE.val (W := NoB) (OpV.move (.inl rfl) rfl) rfl ?_
     refine VO.opY rfl rfl rfl rfl rfl ?_
     refine OpE.val (W := NoB) (OpV.move (.inl rfl) rfl) rfl ?_
     refine VO.opY rfl rfl rfl rfl rfl ?_
     refine OpE.call rfl hB rfl Tryz.call42 rfl (SpecN.spec (slices_Equal_win (by omega) (by first | omega | decide))) ?_
     rintro _ rfl
     refine VO.le _ (Le.boolT (t := 159) rfl (by rw [y2]; first | exact eqLs_self eqWn_self _ | rfl)) ?_
     refine VO.val rfl rfl (OpV.pickT rfl rfl rfl rfl rfl) ?_
     refine VO.mv rfl rfl rfl rfl ?_
     refine VO.opY rfl rfl rfl rfl rfl ?_
     refine OpE.val (W := NoB) (OpV.move (.inl rfl) rfl) rfl ?_
     refine VO.opY rfl rfl rfl rfl rfl ?_
     refine OpE.val (W := NoB) (OpV.move (.inl rfl) rfl) rfl ?_
     refine VO.opY rfl rfl rfl rfl rfl ?_
     refine OpE.val (W := NoB) (OpV.eql rfl rfl rfl) rfl ?_
     refine VO.le _ (Le.boolT (t := 164) rfl (decide_eq_true rfl)) ?_
     refine VO.val rfl rfl (OpV.pickT rfl rfl rfl rfl rfl) ?_
     refine VO.mv rfl rfl rfl rfl ?_
     refine VO.opY rfl rfl rfl rfl rfl ?_
     refine OpE.val (W := NoB) (OpV.move (.inl rfl) rfl) rfl ?_
     refine VO.opY rfl rfl rfl rfl rfl ?_
     refine OpE.val (W := NoB) (OpV.move (.inl rfl) rfl) rfl ?_
     refine VO.opY rfl rfl rfl rfl rfl ?_
     refine OpE.val (W := NoB) (OpV.eql rfl rfl rfl) rfl ?_
     refine VO.le _ (Le.boolT (t := 169) rfl (decide_eq_true y3)) ?_
     refine VO.val rfl rfl (OpV.pickT rfl rfl rfl rfl rfl) ?_
     refine VO.mv rfl rfl rfl rfl ?_
     refine VO.opY rfl rfl rfl rfl rfl ?_
     refine OpE.val (W := NoB) (OpV.move (.inl rfl) rfl) rfl ?_
     refine VO.opY rfl rfl rfl rfl rfl ?_
     refine OpE.val (W := NoB) (OpV.move (.inl rfl) rfl) rfl ?_
     refine VO.opY rfl rfl rfl rfl rfl ?_
     refine OpE.val (W := NoB) (OpV.eql rfl rfl rfl) rfl ?_
     refine VO.le _ (Le.boolT (t := 174) rfl (decide_eq_true y4)) ?_
     refine VO.val rfl rfl (OpV.pickT rfl rfl rfl rfl rfl) ?_
     refine VO.mv rfl rfl rfl rfl ?_
     refine VO.opY rfl rfl rfl rfl rfl ?_
     refine OpE.call rfl hB rfl Tryz.call29 rfl (SpecN.spec (rl_planned)) ?_
     rintro _ rfl
     refine VO.val rfl rfl (OpV.pickT rfl rfl rfl rfl rfl) ?_
     refine VO.ma rfl rfl rfl rfl ?_
     refine VO.nil ?_
     refine VC.ret ?_
     exact And.intro rfl rfl
   ·have h0 := h0b
    try simp only [qqT, qqF, qqN, qqM, qqL, qqE] at h0
    have y1 := chgV_no h0
    refine VC.skip ?_
    refine VC.sr ?_
    refine VO.ma rfl rfl rfl rfl ?_
    first | refine VO.le _ (Le.recast (t := 27) (y := avL ([] : List WinS)) rfl (fun w Z u h => by rw [h.eq_v]; exact .nil _ _)) ?_ | skip
    refine VO.nil ?_
    refine VC.seq ?_
    refine VC.seq ?_
    have y5 := timesR_len p o l r41 r44
    have y6 := timesQ_len p o l r41 r44 l.length
    refine VC.region ?_
    refine VO.mv rfl rfl rfl rfl ?_
    refine VO.val rfl rfl (OpV.eql rfl rfl rfl) ?_
    refine VO.nil ?_
    refine VC.cond rfl (fun h1b => ?_) (fun h1b => ?_)
    ·have h1 := h1b
     try simp only [qqT, qqF, qqN, qqM, qqL, qqE] at h1
     have hk := schOk h1
     have y2 := (sched_ok h1).1
     have y3 := (sched_ok h1).2.1
     have y4 := (sched_ok h1).2.2
     refine VC.sr ?_
     refine VO.mv rfl rfl rfl rfl ?_
     refine VO.mv rfl rfl rfl rfl ?_
     refine VO.mv rfl rfl rfl rfl ?_
     refine VO.mv rfl rfl rfl rfl ?_
     refine VO.mv rfl rfl rfl rfl ?_
     refine VO.op rfl (OpE.call rfl hB rfl Tryz.call40 rfl (SpecN.spec (rf_TimesOf hps hk)) ?_)
     rintro _ rfl
     refine VO.ma rfl rfl rfl rfl ?_
     first | refine VO.le _ (Le.recast (t := 27) (y := avL ([] : List WinS)) rfl (fun w Z u h => by rw [h.eq_v]; exact .nil _ _)) ?_ | skip
     refine VO.nil ?_
     refine VC.region ?_
     refine VO.mv rfl rfl rfl rfl ?_
     refine VO.mv rfl rfl rfl rfl ?_
     refine VO.mv rfl rfl rfl rfl ?_
     refine VO.mv rfl rfl rfl rfl ?_
     refine VO.mv rfl rfl rfl rfl ?_
     refine VO.op rfl (OpE.call rfl hB rfl Tryz.call41 rfl (SpecN.spec (rf_LateOf hps hk)) ?_)
     rintro _ rfl
     refine VO.mv rfl rfl rfl rfl ?_
     refine VO.val rfl rfl (OpV.extract rfl rfl rfl) ?_
     refine VO.val rfl rfl (OpV.extract rfl rfl rfl) ?_
     refine VO.ma rfl rfl rfl rfl ?_
     refine VO.ma rfl rfl rfl rfl ?_
     refine VO.nil ?_
     refine VC.sr ?_
     refine VO.mv rfl rfl rfl rfl ?_
     refine VO.mv rfl rfl rfl rfl ?_
     refine VO.val rfl rfl (OpV.eql rfl rfl rfl) ?_
     refine VO.le _ (Le.boolT (t := 145) rfl (decide_eq_true rfl)) ?_
     refine VO.mv rfl rfl rfl rfl ?_
     refine VO.opY rfl rfl rfl rfl rfl ?_
     refine OpE.val (W := NoB) (OpV.move (.inl rfl) rfl) rfl ?_
     refine VO.opY rfl rfl rfl rfl rfl ?_
     refine OpE.val (W := NoB) (OpV.move (.inl rfl) rfl) rfl ?_
     refine VO.opY rfl rfl rfl rfl rfl ?_
     refine OpE.val (W := NoB) (OpV.eql rfl rfl rfl) rfl ?_
     refine VO.le _ (Le.boolT (t := 149) rfl (decide_eq_true y1)) ?_
     refine VO.val rfl rfl (OpV.pickT rfl rfl rfl rfl rfl) ?_
     refine VO.mv rfl rfl rfl rfl ?_
     refine VO.opY rfl rfl rfl rfl rfl ?_
     refine OpE.val (W := NoB) (OpV.move (.inl rfl) rfl) rfl ?_
     refine VO.opY rfl rfl rfl rfl rfl ?_
     refine OpE.val (W := NoB) (OpV.move (.inl rfl) rfl) rfl ?_
     refine VO.opY rfl rfl rfl rfl rfl ?_
     refine OpE.val (W := NoB) (OpV.eql rfl rfl rfl) rfl ?_
     refine VO.le _ (Le.boolT (t := 154) rfl (decide_eq_true rfl)) ?_
     refine VO.val rfl rfl (OpV.pickT rfl rfl rfl rfl rfl) ?_
     refine VO.mv rfl rfl rfl rfl ?_
     refine VO.opY rfl rfl rfl rfl rfl ?_
     refine OpE.val (W := NoB) (OpV.move (.inl rfl) rfl) rfl ?_
     refine VO.opY rfl rfl rfl rfl rfl ?_
     refine OpE.val (W := NoB) (OpV.move (.inl rfl) rfl) rfl ?_
     refine VO.opY rfl rfl rfl rfl rfl ?_
     refine OpE.call rfl hB rfl Tryz.call42 rfl (SpecN.spec (slices_Equal_win (by omega) (by first | omega | decide))) ?_
     rintro _ rfl
     refine VO.le _ (Le.boolT (t := 159) rfl (by rw [y2]; first | exact eqLs_self eqWn_self _ | rfl)) ?_
     refine VO.val rfl rfl (OpV.pickT rfl rfl rfl rfl rfl) ?_
     refine VO.mv rfl rfl rfl rfl ?_
     refine VO.opY rfl rfl rfl rfl rfl ?_
     refine OpE.val (W := NoB) (OpV.move (.inl rfl) rfl) rfl ?_
     refine VO.opY rfl rfl rfl rfl rfl ?_
     refine OpE.val (W := NoB) (OpV.move (.inl rfl) rfl) rfl ?_
     refine VO.opY rfl rfl rfl rfl rfl ?_
     refine OpE.val (W := NoB) (OpV.eql rfl rfl rfl) rfl ?_
     refine VO.le _ (Le.boolT (t := 164) rfl (decide_eq_true rfl)) ?_
     refine VO.val rfl rfl (OpV.pickT rfl rfl rfl rfl rfl) ?_
     refine VO.mv rfl rfl rfl rfl ?_
     refine VO.opY rfl rfl rfl rfl rfl ?_
     refine OpE.val (W := NoB) (OpV.move (.inl rfl) rfl) rfl ?_
     refine VO.opY rfl rfl rfl rfl rfl ?_
     refine OpE.val (W := NoB) (OpV.move (.inl rfl) rfl) rfl ?_
     refine VO.opY rfl rfl rfl rfl rfl ?_
     refine OpE.val (W := NoB) (OpV.eql rfl rfl rfl) rfl ?_
     refine VO.le _ (Le.boolT (t := 169) rfl (decide_eq_true y3)) ?_
     refine VO.val rfl rfl (OpV.pickT rfl rfl rfl rfl rfl) ?_
     refine VO.mv rfl rfl rfl rfl ?_
     refine VO.opY rfl rfl rfl rfl rfl ?_
     refine OpE.val (W := NoB) (OpV.move (.inl rfl) rfl) rfl ?_
     refine VO.opY rfl rfl rfl rfl rfl ?_
     refine OpE.val (W := NoB) (OpV.move (.inl rfl) rfl) rfl ?_
     refine VO.opY rfl rfl rfl rfl rfl ?_
     refine OpE.val (W := NoB) (OpV.eql rfl rfl rfl) rfl ?_
     refine VO.le _ (Le.boolT (t := 174) rfl (decide_eq_true y4)) ?_
     refine VO.val rfl rfl (OpV.pickT rfl rfl rfl rfl rfl) ?_
     refine VO.mv rfl rfl rfl rfl ?_
     refine VO.opY rfl rfl rfl rfl rfl ?_
     refine OpE.call rfl hB rfl Tryz.call29 rfl (SpecN.spec (rl_planned)) ?_
     rintro _ rfl
     refine VO.val rfl rfl (OpV.pickT rfl rfl rfl rfl rfl) ?_
     refine VO.ma rfl rfl rfl rfl ?_
     refine VO.nil ?_
     refine VC.ret ?_
     exact And.intro rfl rfl
    ·have h1 := h1b
     try simp only [qqT, qqF, qqN, qqM, qqL, qqE] at h1
     have y2 := (sched_no h1).1
     have y3 := (sched_no h1).2.1
     have y4 := (sched_no h1).2.2
     refine VC.skip ?_
     refine VC.sr ?_
     refine VO.mv rfl rfl rfl rfl ?_
     refine VO.mv rfl rfl rfl rfl ?_
     refine VO.val rfl rfl (OpV.eql rfl rfl rfl) ?_
     refine VO.le _ (Le.boolT (t := 145) rfl (decide_eq_true rfl)) ?_
     refine VO.mv rfl rfl rfl rfl ?_
     refine VO.opY rfl rfl rfl rfl rfl ?_
     refine OpE.val (W := NoB) (OpV.move (.inl rfl) rfl) rfl ?_
     refine VO.opY rfl rfl rfl rfl rfl ?_
     refine OpE.val (W := NoB) (OpV.move (.inl rfl) rfl) rfl ?_
     refine VO.opY rfl rfl rfl rfl rfl ?_
     refine OpE.val (W := NoB) (OpV.eql rfl rfl rfl) rfl ?_
     refine VO.le _ (Le.boolT (t := 149) rfl (decide_eq_true y1)) ?_
     refine VO.val rfl rfl (OpV.pickT rfl rfl rfl rfl rfl) ?_
     refine VO.mv rfl rfl rfl rfl ?_
     refine VO.opY rfl rfl rfl rfl rfl ?_
     refine OpE.val (W := NoB) (OpV.move (.inl rfl) rfl) rfl ?_
     refine VO.opY rfl rfl rfl rfl rfl ?_
     refine OpE.val (W := NoB) (OpV.move (.inl rfl) rfl) rfl ?_
     refine VO.opY rfl rfl rfl rfl rfl ?_
     refine OpE.val (W := NoB) (OpV.eql rfl rfl rfl) rfl ?_
     refine VO.le _ (Le.boolT (t := 154) rfl (decide_eq_true rfl)) ?_
     refine VO.val rfl rfl (OpV.pickT rfl rfl rfl rfl rfl) ?_
     refine VO.mv rfl rfl rfl rfl ?_
     refine VO.opY rfl rfl rfl rfl rfl ?_
     refine OpE.val (W := NoB) (OpV.move (.inl rfl) rfl) rfl ?_
     refine VO.opY rfl rfl rfl rfl rfl ?_
     refine OpE.val (W := NoB) (OpV.move (.inl rfl) rfl) rfl ?_
     refine VO.opY rfl rfl rfl rfl rfl ?_
     refine OpE.call rfl hB rfl Tryz.call42 rfl (SpecN.spec (slices_Equal_win (by omega) (by first | omega | decide))) ?_
     rintro _ rfl
     refine VO.le _ (Le.boolT (t := 159) rfl (by rw [y2]; first | exact eqLs_self eqWn_self _ | rfl)) ?_
     refine VO.val rfl rfl (OpV.pickT rfl rfl rfl rfl rfl) ?_
     refine VO.mv rfl rfl rfl rfl ?_
     refine VO.opY rfl rfl rfl rfl rfl ?_
     refine OpE.val (W := NoB) (OpV.move (.inl rfl) rfl) rfl ?_
     refine VO.opY rfl rfl rfl rfl rfl ?_
     refine OpE.val (W := NoB) (OpV.move (.inl rfl) rfl) rfl ?_
     refine VO.opY rfl rfl rfl rfl rfl ?_
     refine OpE.val (W := NoB) (OpV.eql rfl rfl rfl) rfl ?_
     refine VO.le _ (Le.boolT (t := 164) rfl (decide_eq_true rfl)) ?_
     refine VO.val rfl rfl (OpV.pickT rfl rfl rfl rfl rfl) ?_
     refine VO.mv rfl rfl rfl rfl ?_
     refine VO.opY rfl rfl rfl rfl rfl ?_
     refine OpE.val (W := NoB) (OpV.move (.inl rfl) rfl) rfl ?_
     refine VO.opY rfl rfl rfl rfl rfl ?_
     refine OpE.val (W := NoB) (OpV.move (.inl rfl) rfl) rfl ?_
     refine VO.opY rfl rfl rfl rfl rfl ?_
     refine OpE.val (W := NoB) (OpV.eql rfl rfl rfl) rfl ?_
     refine VO.le _ (Le.boolT (t := 169) rfl (decide_eq_true y3)) ?_
     refine VO.val rfl rfl (OpV.pickT rfl rfl rfl rfl rfl) ?_
     refine VO.mv rfl rfl rfl rfl ?_
     refine VO.opY rfl rfl rfl rfl rfl ?_
     refine OpE.val (W := NoB) (OpV.move (.inl rfl) rfl) rfl ?_
     refine VO.opY rfl rfl rfl rfl rfl ?_
     refine OpE.val (W := NoB) (OpV.move (.inl rfl) rfl) rfl ?_
     refine VO.opY rfl rfl rfl rfl rfl ?_
     refine OpE.val (W := NoB) (OpV.eql rfl rfl rfl) rfl ?_
     refine VO.le _ (Le.boolT (t := 174) rfl (decide_eq_true y4)) ?_
     refine VO.val rfl rfl (OpV.pickT rfl rfl rfl rfl rfl) ?_
     refine VO.mv rfl rfl rfl rfl ?_
     refine VO.opY rfl rfl rfl rfl rfl ?_
     refine OpE.call rfl hB rfl Tryz.call29 rfl (SpecN.spec (rl_planned)) ?_
     rintro _ rfl
     refine VO.val rfl rfl (OpV.pickT rfl rfl rfl rfl rfl) ?_
     refine VO.ma rfl rfl rfl rfl ?_
     refine VO.nil ?_
     refine VC.ret ?_
     exact And.intro rfl rfl
  ·replace aK3b : _ = true := aK3b
   have aK3 := aK3b
   try simp only [qqT, qqF, qqN, qqM, qqL, qqE] at aK3
   refine VO.opX rfl rfl rfl rfl aK3b ?_
   refine VO.val rfl rfl (OpV.pickT rfl rfl rfl rfl aK3b) ?_
   refine VO.op rfl (OpE.call rfl hB rfl Tryz.call37 rfl (SpecN.spec (rl_when)) ?_)
   rintro _ rfl
   refine VO.le _ (Le.recast (t := 105) (y := avI (if (hasP p r47 && hasP p r50) = true then 0 else 8)) rfl (fun w Z u h => by cases h1 : hasP p r47 <;> cases h2 : hasP p r50 <;> simp_all)) ?_
   refine VO.op rfl (OpE.buildSlice (zc := #[.int .i64 0, .int .i64 0, .int .i64 0]) rfl hB rfl Tryz.underlying130 Tryz.sizeOf38 Tryz.zeroValue38 (by decide) (by decide) (by kernel_rfl) rfl rfl ?_)
   refine VO.le _ (Le.lits (t := 106) (xs := [paceF p, if outR r44 0 10000000 = true then 1 else 0, if (hasP p r47 && hasP p r50) = true then 0 else 8]) rfl rfl) ?_
   refine VO.op rfl (OpE.call rfl hB rfl Tryz.call23 rfl (SpecN.spec (rl_errs (by simp))) ?_)
   rintro _ rfl
   refine VO.le _ (Le.recast (t := 107) (y := avI (chgE p r47 r50 r44)) rfl (fun w Z u h => by rw [← oneE_eq]; exact h)) ?_
   refine VO.ma rfl rfl rfl rfl ?_
   refine VO.nil ?_
   refine VC.sr ?_
   refine VO.mv rfl rfl rfl rfl ?_
   refine VO.mv rfl rfl rfl rfl ?_
   refine VO.op rfl (OpE.call rfl hB rfl Tryz.call24 rfl (SpecN.spec (rf_BothFault hps hos)) ?_)
   rintro _ rfl
   refine VO.mv rfl rfl rfl rfl ?_
   refine VO.mv rfl rfl rfl rfl ?_
   refine VO.op rfl (OpE.call rfl hB rfl Tryz.call38 rfl (SpecN.spec (rf_ScheduleFault (by omega) (by omega))) ?_)
   rintro _ rfl
   refine VO.mv rfl rfl rfl rfl ?_
   refine VO.mv rfl rfl rfl rfl ?_
   refine VO.op rfl (OpE.call rfl hB rfl Tryz.call25 rfl (SpecN.spec (rf_StartFault)) ?_)
   rintro _ rfl
   refine VO.op rfl (OpE.buildSlice (zc := #[.int .i64 0, .int .i64 0, .int .i64 0]) rfl hB rfl Tryz.underlying130 Tryz.sizeOf38 Tryz.zeroValue38 (by decide) (by decide) (by kernel_rfl) rfl rfl ?_)
   refine VO.le _ (Le.lits (t := 117) (xs := [bothF p o, schF o.length l, startF r41 r44]) rfl rfl) ?_
   refine VO.op rfl (OpE.call rfl hB rfl Tryz.call23 rfl (SpecN.spec (rl_errs (by simp))) ?_)
   rintro _ rfl
   refine VO.le _ (Le.recast (t := 118) (y := avI (scheF p o l r41 r44)) rfl (fun w Z u h => by rw [← twoE_eq]; exact h)) ?_
   refine VO.ma rfl rfl rfl rfl ?_
   refine VO.nil ?_
   refine VC.sr ?_
   refine VO.ma rfl rfl rfl rfl ?_
   refine VO.ma rfl rfl rfl rfl ?_
   refine VO.ma rfl rfl rfl rfl ?_
   refine VO.nil ?_
   refine VC.seq ?_
   refine VC.sr ?_
   refine VO.mv rfl rfl rfl rfl ?_
   refine VO.val rfl rfl (OpV.eql rfl rfl rfl) ?_
   refine VO.nil ?_
   refine VC.cond rfl (fun h0b => ?_) (fun h0b => ?_)
   ·have h0 := h0b
    try simp only [qqT, qqF, qqN, qqM, qqL, qqE] at h0
    have z0 := chgE_zero h0
    have y1 := chgV_ok h0
    refine VC.region ?_
    refine VO.mv rfl rfl rfl rfl ?_
    refine VO.mv rfl rfl rfl rfl ?_
    refine VO.mv rfl rfl rfl rfl ?_
    refine VO.mv rfl rfl rfl rfl ?_
    refine VO.op rfl (OpE.call rfl hB rfl Tryz.call39 rfl (SpecN.spec (rf_ChangeoverOf hps z0)) ?_)
    rintro _ rfl
    refine VO.ma rfl rfl rfl rfl ?_
    refine VO.nil ?_
    refine VC.sr ?_
    refine VO.ma rfl rfl rfl rfl ?_
    first | refine VO.le _ (Le.recast (t := 27) (y := avL ([] : List WinS)) rfl (fun w Z u h => by rw [h.eq_v]; exact .nil _ _)) ?_ | skip
    refine VO.nil ?_
    refine VC.seq ?_
    refine VC.seq ?_
    have y5 := timesR_len p o l r41 r44
    have y6 := timesQ_len p o l r41 r44 l.length
    refine VC.region ?_
    refine VO.mv rfl rfl rfl rfl ?_
    refine VO.val rfl rfl (OpV.eql rfl rfl rfl) ?_
    refine VO.nil ?_
    refine VC.cond rfl (fun h1b => ?_) (fun h1b => ?_)
    ·have h1 := h1b
     try simp only [qqT, qqF, qqN, qqM, qqL, qqE] at h1
     have hk := schOk h1
     have y2 := (sched_ok h1).1
     have y3 := (sched_ok h1).2.1
     have y4 := (sched_ok h1).2.2
     refine VC.sr ?_
     refine VO.mv rfl rfl rfl rfl ?_
     refine VO.mv rfl rfl rfl rfl ?_
     refine VO.mv rfl rfl rfl rfl ?_
     refine VO.mv rfl rfl rfl rfl ?_
     refine VO.mv rfl rfl rfl rfl ?_
     refine VO.op rfl (OpE.call rfl hB rfl Tryz.call40 rfl (SpecN.spec (rf_TimesOf hps hk)) ?_)
     rintro _ rfl
     refine VO.ma rfl rfl rfl rfl ?_
     first | refine VO.le _ (Le.recast (t := 27) (y := avL ([] : List WinS)) rfl (fun w Z u h => by rw [h.eq_v]; exact .nil _ _)) ?_ | skip
     refine VO.nil ?_
     refine VC.region ?_
     refine VO.mv rfl rfl rfl rfl ?_
     refine VO.mv rfl rfl rfl rfl ?_
     refine VO.mv rfl rfl rfl rfl ?_
     refine VO.mv rfl rfl rfl rfl ?_
     refine VO.mv rfl rfl rfl rfl ?_
     refine VO.op rfl (OpE.call rfl hB rfl Tryz.call41 rfl (SpecN.spec (rf_LateOf hps hk)) ?_)
     rintro _ rfl
     refine VO.mv rfl rfl rfl rfl ?_
     refine VO.val rfl rfl (OpV.extract rfl rfl rfl) ?_
     refine VO.val rfl rfl (OpV.extract rfl rfl rfl) ?_
     refine VO.ma rfl rfl rfl rfl ?_
     refine VO.ma rfl rfl rfl rfl ?_
     refine VO.nil ?_
     refine VC.sr ?_
     refine VO.mv rfl rfl rfl rfl ?_
     refine VO.mv rfl rfl rfl rfl ?_
     refine VO.val rfl rfl (OpV.eql rfl rfl rfl) ?_
     refine VO.le _ (Le.boolT (t := 145) rfl (decide_eq_true rfl)) ?_
     refine VO.mv rfl rfl rfl rfl ?_
     refine VO.opY rfl rfl rfl rfl rfl ?_
     refine OpE.val (W := NoB) (OpV.move (.inl rfl) rfl) rfl ?_
     refine VO.opY rfl rfl rfl rfl rfl ?_
     refine OpE.val (W := NoB) (OpV.move (.inl rfl) rfl) rfl ?_
     refine VO.opY rfl rfl rfl rfl rfl ?_
     refine OpE.val (W := NoB) (OpV.eql rfl rfl rfl) rfl ?_
     refine VO.le _ (Le.boolT (t := 149) rfl (decide_eq_true y1)) ?_
     refine VO.val rfl rfl (OpV.pickT rfl rfl rfl rfl rfl) ?_
     refine VO.mv rfl rfl rfl rfl ?_
     refine VO.opY rfl rfl rfl rfl rfl ?_
     refine OpE.val (W := NoB) (OpV.move (.inl rfl) rfl) rfl ?_
     refine VO.opY rfl rfl rfl rfl rfl ?_
     refine OpE.val (W := NoB) (OpV.move (.inl rfl) rfl) rfl ?_
     refine VO.opY rfl rfl rfl rfl rfl ?_
     refine OpE.val (W := NoB) (OpV.eql rfl rfl rfl) rfl ?_
     refine VO.le _ (Le.boolT (t := 154) rfl (decide_eq_true rfl)) ?_
     refine VO.val rfl rfl (OpV.pickT rfl rfl rfl rfl rfl) ?_
     refine VO.mv rfl rfl rfl rfl ?_
     refine VO.opY rfl rfl rfl rfl rfl ?_
     refine OpE.val (W := NoB) (OpV.move (.inl rfl) rfl) rfl ?_
     refine VO.opY rfl rfl rfl rfl rfl ?_
     refine OpE.val (W := NoB) (OpV.move (.inl rfl) rfl) rfl ?_
     refine VO.opY rfl rfl rfl rfl rfl ?_
     refine OpE.call rfl hB rfl Tryz.call42 rfl (SpecN.spec (slices_Equal_win (by omega) (by first | omega | decide))) ?_
     rintro _ rfl
     refine VO.le _ (Le.boolT (t := 159) rfl (by rw [y2]; first | exact eqLs_self eqWn_self _ | rfl)) ?_
     refine VO.val rfl rfl (OpV.pickT rfl rfl rfl rfl rfl) ?_
     refine VO.mv rfl rfl rfl rfl ?_
     refine VO.opY rfl rfl rfl rfl rfl ?_
     refine OpE.val (W := NoB) (OpV.move (.inl rfl) rfl) rfl ?_
     refine VO.opY rfl rfl rfl rfl rfl ?_
     refine OpE.val (W := NoB) (OpV.move (.inl rfl) rfl) rfl ?_
     refine VO.opY rfl rfl rfl rfl rfl ?_
     refine OpE.val (W := NoB) (OpV.eql rfl rfl rfl) rfl ?_
     refine VO.le _ (Le.boolT (t := 164) rfl (decide_eq_true rfl)) ?_
     refine VO.val rfl rfl (OpV.pickT rfl rfl rfl rfl rfl) ?_
     refine VO.mv rfl rfl rfl rfl ?_
     refine VO.opY rfl rfl rfl rfl rfl ?_
     refine OpE.val (W := NoB) (OpV.move (.inl rfl) rfl) rfl ?_
     refine VO.opY rfl rfl rfl rfl rfl ?_
     refine OpE.val (W := NoB) (OpV.move (.inl rfl) rfl) rfl ?_
     refine VO.opY rfl rfl rfl rfl rfl ?_
     refine OpE.val (W := NoB) (OpV.eql rfl rfl rfl) rfl ?_
     refine VO.le _ (Le.boolT (t := 169) rfl (decide_eq_true y3)) ?_
     refine VO.val rfl rfl (OpV.pickT rfl rfl rfl rfl rfl) ?_
     refine VO.mv rfl rfl rfl rfl ?_
     refine VO.opY rfl rfl rfl rfl rfl ?_
     refine OpE.val (W := NoB) (OpV.move (.inl rfl) rfl) rfl ?_
     refine VO.opY rfl rfl rfl rfl rfl ?_
     refine OpE.val (W := NoB) (OpV.move (.inl rfl) rfl) rfl ?_
     refine VO.opY rfl rfl rfl rfl rfl ?_
     refine OpE.val (W := NoB) (OpV.eql rfl rfl rfl) rfl ?_
     refine VO.le _ (Le.boolT (t := 174) rfl (decide_eq_true y4)) ?_
     refine VO.val rfl rfl (OpV.pickT rfl rfl rfl rfl rfl) ?_
     refine VO.mv rfl rfl rfl rfl ?_
     refine VO.opY rfl rfl rfl rfl rfl ?_
     refine OpE.call rfl hB rfl Tryz.call29 rfl (SpecN.spec (rl_planned)) ?_
     rintro _ rfl
     refine VO.val rfl rfl (OpV.pickT rfl rfl rfl rfl rfl) ?_
     refine VO.ma rfl rfl rfl rfl ?_
     refine VO.nil ?_
     refine VC.ret ?_
     exact And.intro rfl rfl
    ·have h1 := h1b
     try simp only [qqT, qqF, qqN, qqM, qqL, qqE] at h1
     have y2 := (sched_no h1).1
     have y3 := (sched_no h1).2.1
     have y4 := (sched_no h1).2.2
     refine VC.skip ?_
     refine VC.sr ?_
     refine VO.mv rfl rfl rfl rfl ?_
     refine VO.mv rfl rfl rfl rfl ?_
     refine VO.val rfl rfl (OpV.eql rfl rfl rfl) ?_
     refine VO.le _ (Le.boolT (t := 145) rfl (decide_eq_true rfl)) ?_
     refine VO.mv rfl rfl rfl rfl ?_
     refine VO.opY rfl rfl rfl rfl rfl ?_
     refine OpE.val (W := NoB) (OpV.move (.inl rfl) rfl) rfl ?_
     refine VO.opY rfl rfl rfl rfl rfl ?_
     refine OpE.val (W := NoB) (OpV.move (.inl rfl) rfl) rfl ?_
     refine VO.opY rfl rfl rfl rfl rfl ?_
     refine OpE.val (W := NoB) (OpV.eql rfl rfl rfl) rfl ?_
     refine VO.le _ (Le.boolT (t := 149) rfl (decide_eq_true y1)) ?_
     refine VO.val rfl rfl (OpV.pickT rfl rfl rfl rfl rfl) ?_
     refine VO.mv rfl rfl rfl rfl ?_
     refine VO.opY rfl rfl rfl rfl rfl ?_
     refine OpE.val (W := NoB) (OpV.move (.inl rfl) rfl) rfl ?_
     refine VO.opY rfl rfl rfl rfl rfl ?_
     refine OpE.val (W := NoB) (OpV.move (.inl rfl) rfl) rfl ?_
     refine VO.opY rfl rfl rfl rfl rfl ?_
     refine OpE.val (W := NoB) (OpV.eql rfl rfl rfl) rfl ?_
     refine VO.le _ (Le.boolT (t := 154) rfl (decide_eq_true rfl)) ?_
     refine VO.val rfl rfl (OpV.pickT rfl rfl rfl rfl rfl) ?_
     refine VO.mv rfl rfl rfl rfl ?_
     refine VO.opY rfl rfl rfl rfl rfl ?_
     refine OpE.val (W := NoB) (OpV.move (.inl rfl) rfl) rfl ?_
     refine VO.opY rfl rfl rfl rfl rfl ?_
     refine OpE.val (W := NoB) (OpV.move (.inl rfl) rfl) rfl ?_
     refine VO.opY rfl rfl rfl rfl rfl ?_
     refine OpE.call rfl hB rfl Tryz.call42 rfl (SpecN.spec (slices_Equal_win (by omega) (by first | omega | decide))) ?_
     rintro _ rfl
     refine VO.le _ (Le.boolT (t := 159) rfl (by rw [y2]; first | exact eqLs_self eqWn_self _ | rfl)) ?_
     refine VO.val rfl rfl (OpV.pickT rfl rfl rfl rfl rfl) ?_
     refine VO.mv rfl rfl rfl rfl ?_
     refine VO.opY rfl rfl rfl rfl rfl ?_
     refine OpE.val (W := NoB) (OpV.move (.inl rfl) rfl) rfl ?_
     refine VO.opY rfl rfl rfl rfl rfl ?_
     refine OpE.val (W := NoB) (OpV.move (.inl rfl) rfl) rfl ?_
     refine VO.opY rfl rfl rfl rfl rfl ?_
     refine OpE.val (W := NoB) (OpV.eql rfl rfl rfl) rfl ?_
     refine VO.le _ (Le.boolT (t := 164) rfl (decide_eq_true rfl)) ?_
     refine VO.val rfl rfl (OpV.pickT rfl rfl rfl rfl rfl) ?_
     refine VO.mv rfl rfl rfl rfl ?_
     refine VO.opY rfl rfl rfl rfl rfl ?_
     refine OpE.val (W := NoB) (OpV.move (.inl rfl) rfl) rfl ?_
     refine VO.opY rfl rfl rfl rfl rfl ?_
     refine OpE.val (W := NoB) (OpV.move (.inl rfl) rfl) rfl ?_
     refine VO.opY rfl rfl rfl rfl rfl ?_
     refine OpE.val (W := NoB) (OpV.eql rfl rfl rfl) rfl ?_
     refine VO.le _ (Le.boolT (t := 169) rfl (decide_eq_true y3)) ?_
     refine VO.val rfl rfl (OpV.pickT rfl rfl rfl rfl rfl) ?_
     refine VO.mv rfl rfl rfl rfl ?_
     refine VO.opY rfl rfl rfl rfl rfl ?_
     refine OpE.val (W := NoB) (OpV.move (.inl rfl) rfl) rfl ?_
     refine VO.opY rfl rfl rfl rfl rfl ?_
     refine OpE.val (W := NoB) (OpV.move (.inl rfl) rfl) rfl ?_
     refine VO.opY rfl rfl rfl rfl rfl ?_
     refine OpE.val (W := NoB) (OpV.eql rfl rfl rfl) rfl ?_
     refine VO.le _ (Le.boolT (t := 174) rfl (decide_eq_true y4)) ?_
     refine VO.val rfl rfl (OpV.pickT rfl rfl rfl rfl rfl) ?_
     refine VO.mv rfl rfl rfl rfl ?_
     refine VO.opY rfl rfl rfl rfl rfl ?_
     refine OpE.call rfl hB rfl Tryz.call29 rfl (SpecN.spec (rl_planned)) ?_
     rintro _ rfl
     refine VO.val rfl rfl (OpV.pickT rfl rfl rfl rfl rfl) ?_
     refine VO.ma rfl rfl rfl rfl ?_
     refine VO.nil ?_
     refine VC.ret ?_
     exact And.intro rfl rfl
   ·have h0 := h0b
    try simp only [qqT, qqF, qqN, qqM, qqL, qqE] at h0
    have y1 := chgV_no h0
    refine VC.skip ?_
    refine VC.sr ?_
    refine VO.ma rfl rfl rfl rfl ?_
    first | refine VO.le _ (Le.recast (t := 27) (y := avL ([] : List WinS)) rfl (fun w Z u h => by rw [h.eq_v]; exact .nil _ _)) ?_ | skip
    refine VO.nil ?_
    refine VC.seq ?_
    refine VC.seq ?_
    have y5 := timesR_len p o l r41 r44
    have y6 := timesQ_len p o l r41 r44 l.length
    refine VC.region ?_
    refine VO.mv rfl rfl rfl rfl ?_
    refine VO.val rfl rfl (OpV.eql rfl rfl rfl) ?_
    refine VO.nil ?_
    refine VC.cond rfl (fun h1b => ?_) (fun h1b => ?_)
    ·have h1 := h1b
     try simp only [qqT, qqF, qqN, qqM, qqL, qqE] at h1
     have hk := schOk h1
     have y2 := (sched_ok h1).1
     have y3 := (sched_ok h1).2.1
     have y4 := (sched_ok h1).2.2
     refine VC.sr ?_
     refine VO.mv rfl rfl rfl rfl ?_
     refine VO.mv rfl rfl rfl rfl ?_
     refine VO.mv rfl rfl rfl rfl ?_
     refine VO.mv rfl rfl rfl rfl ?_
     refine VO.mv rfl rfl rfl rfl ?_
     refine VO.op rfl (OpE.call rfl hB rfl Tryz.call40 rfl (SpecN.spec (rf_TimesOf hps hk)) ?_)
     rintro _ rfl
     refine VO.ma rfl rfl rfl rfl ?_
     first | refine VO.le _ (Le.recast (t := 27) (y := avL ([] : List WinS)) rfl (fun w Z u h => by rw [h.eq_v]; exact .nil _ _)) ?_ | skip
     refine VO.nil ?_
     refine VC.region ?_
     refine VO.mv rfl rfl rfl rfl ?_
     refine VO.mv rfl rfl rfl rfl ?_
     refine VO.mv rfl rfl rfl rfl ?_
     refine VO.mv rfl rfl rfl rfl ?_
     refine VO.mv rfl rfl rfl rfl ?_
     refine VO.op rfl (OpE.call rfl hB rfl Tryz.call41 rfl (SpecN.spec (rf_LateOf hps hk)) ?_)
     rintro _ rfl
     refine VO.mv rfl rfl rfl rfl ?_
     refine VO.val rfl rfl (OpV.extract rfl rfl rfl) ?_
     refine VO.val rfl rfl (OpV.extract rfl rfl rfl) ?_
     refine VO.ma rfl rfl rfl rfl ?_
     refine VO.ma rfl rfl rfl rfl ?_
     refine VO.nil ?_
     refine VC.sr ?_
     refine VO.mv rfl rfl rfl rfl ?_
     refine VO.mv rfl rfl rfl rfl ?_
     refine VO.val rfl rfl (OpV.eql rfl rfl rfl) ?_
     refine VO.le _ (Le.boolT (t := 145) rfl (decide_eq_true rfl)) ?_
     refine VO.mv rfl rfl rfl rfl ?_
     refine VO.opY rfl rfl rfl rfl rfl ?_
     refine OpE.val (W := NoB) (OpV.move (.inl rfl) rfl) rfl ?_
     refine VO.opY rfl rfl rfl rfl rfl ?_
     refine OpE.val (W := NoB) (OpV.move (.inl rfl) rfl) rfl ?_
     refine VO.opY rfl rfl rfl rfl rfl ?_
     refine OpE.val (W := NoB) (OpV.eql rfl rfl rfl) rfl ?_
     refine VO.le _ (Le.boolT (t := 149) rfl (decide_eq_true y1)) ?_
     refine VO.val rfl rfl (OpV.pickT rfl rfl rfl rfl rfl) ?_
     refine VO.mv rfl rfl rfl rfl ?_
     refine VO.opY rfl rfl rfl rfl rfl ?_
     refine OpE.val (W := NoB) (OpV.move (.inl rfl) rfl) rfl ?_
     refine VO.opY rfl rfl rfl rfl rfl ?_
     refine OpE.val (W := NoB) (OpV.move (.inl rfl) rfl) rfl ?_
     refine VO.opY rfl rfl rfl rfl rfl ?_
     refine OpE.val (W := NoB) (OpV.eql rfl rfl rfl) rfl ?_
     refine VO.le _ (Le.boolT (t := 154) rfl (decide_eq_true rfl)) ?_
     refine VO.val rfl rfl (OpV.pickT rfl rfl rfl rfl rfl) ?_
     refine VO.mv rfl rfl rfl rfl ?_
     refine VO.opY rfl rfl rfl rfl rfl ?_
     refine OpE.val (W := NoB) (OpV.move (.inl rfl) rfl) rfl ?_
     refine VO.opY rfl rfl rfl rfl rfl ?_
     refine OpE.val (W := NoB) (OpV.move (.inl rfl) rfl) rfl ?_
     refine VO.opY rfl rfl rfl rfl rfl ?_
     refine OpE.call rfl hB rfl Tryz.call42 rfl (SpecN.spec (slices_Equal_win (by omega) (by first | omega | decide))) ?_
     rintro _ rfl
     refine VO.le _ (Le.boolT (t := 159) rfl (by rw [y2]; first | exact eqLs_self eqWn_self _ | rfl)) ?_
     refine VO.val rfl rfl (OpV.pickT rfl rfl rfl rfl rfl) ?_
     refine VO.mv rfl rfl rfl rfl ?_
     refine VO.opY rfl rfl rfl rfl rfl ?_
     refine OpE.val (W := NoB) (OpV.move (.inl rfl) rfl) rfl ?_
     refine VO.opY rfl rfl rfl rfl rfl ?_
     refine OpE.val (W := NoB) (OpV.move (.inl rfl) rfl) rfl ?_
     refine VO.opY rfl rfl rfl rfl rfl ?_
     refine OpE.val (W := NoB) (OpV.eql rfl rfl rfl) rfl ?_
     refine VO.le _ (Le.boolT (t := 164) rfl (decide_eq_true rfl)) ?_
     refine VO.val rfl rfl (OpV.pickT rfl rfl rfl rfl rfl) ?_
     refine VO.mv rfl rfl rfl rfl ?_
     refine VO.opY rfl rfl rfl rfl rfl ?_
     refine OpE.val (W := NoB) (OpV.move (.inl rfl) rfl) rfl ?_
     refine VO.opY rfl rfl rfl rfl rfl ?_
     refine OpE.val (W := NoB) (OpV.move (.inl rfl) rfl) rfl ?_
     refine VO.opY rfl rfl rfl rfl rfl ?_
     refine OpE.val (W := NoB) (OpV.eql rfl rfl rfl) rfl ?_
     refine VO.le _ (Le.boolT (t := 169) rfl (decide_eq_true y3)) ?_
     refine VO.val rfl rfl (OpV.pickT rfl rfl rfl rfl rfl) ?_
     refine VO.mv rfl rfl rfl rfl ?_
     refine VO.opY rfl rfl rfl rfl rfl ?_
     refine OpE.val (W := NoB) (OpV.move (.inl rfl) rfl) rfl ?_
     refine VO.opY rfl rfl rfl rfl rfl ?_
     refine OpE.val (W := NoB) (OpV.move (.inl rfl) rfl) rfl ?_
     refine VO.opY rfl rfl rfl rfl rfl ?_
     refine OpE.val (W := NoB) (OpV.eql rfl rfl rfl) rfl ?_
     refine VO.le _ (Le.boolT (t := 174) rfl (decide_eq_true y4)) ?_
     refine VO.val rfl rfl (OpV.pickT rfl rfl rfl rfl rfl) ?_
     refine VO.mv rfl rfl rfl rfl ?_
     refine VO.opY rfl rfl rfl rfl rfl ?_
     refine OpE.call rfl hB rfl Tryz.call29 rfl (SpecN.spec (rl_planned)) ?_
     rintro _ rfl
     refine VO.val rfl rfl (OpV.pickT rfl rfl rfl rfl rfl) ?_
     refine VO.ma rfl rfl rfl rfl ?_
     refine VO.nil ?_
     refine VC.ret ?_
     exact And.intro rfl rfl
    ·have h1 := h1b
     try simp only [qqT, qqF, qqN, qqM, qqL, qqE] at h1
     have y2 := (sched_no h1).1
     have y3 := (sched_no h1).2.1
     have y4 := (sched_no h1).2.2
     refine VC.skip ?_
     refine VC.sr ?_
     refine VO.mv rfl rfl rfl rfl ?_
     refine VO.mv rfl rfl rfl rfl ?_
     refine VO.val rfl rfl (OpV.eql rfl rfl rfl) ?_
     refine VO.le _ (Le.boolT (t := 145) rfl (decide_eq_true rfl)) ?_
     refine VO.mv rfl rfl rfl rfl ?_
     refine VO.opY rfl rfl rfl rfl rfl ?_
     refine OpE.val (W := NoB) (OpV.move (.inl rfl) rfl) rfl ?_
     refine VO.opY rfl rfl rfl rfl rfl ?_
     refine OpE.val (W := NoB) (OpV.move (.inl rfl) rfl) rfl ?_
     refine VO.opY rfl rfl rfl rfl rfl ?_
     refine OpE.val (W := NoB) (OpV.eql rfl rfl rfl) rfl ?_
     refine VO.le _ (Le.boolT (t := 149) rfl (decide_eq_true y1)) ?_
     refine VO.val rfl rfl (OpV.pickT rfl rfl rfl rfl rfl) ?_
     refine VO.mv rfl rfl rfl rfl ?_
     refine VO.opY rfl rfl rfl rfl rfl ?_
     refine OpE.val (W := NoB) (OpV.move (.inl rfl) rfl) rfl ?_
     refine VO.opY rfl rfl rfl rfl rfl ?_
     refine OpE.val (W := NoB) (OpV.move (.inl rfl) rfl) rfl ?_
     refine VO.opY rfl rfl rfl rfl rfl ?_
     refine OpE.val (W := NoB) (OpV.eql rfl rfl rfl) rfl ?_
     refine VO.le _ (Le.boolT (t := 154) rfl (decide_eq_true rfl)) ?_
     refine VO.val rfl rfl (OpV.pickT rfl rfl rfl rfl rfl) ?_
     refine VO.mv rfl rfl rfl rfl ?_
     refine VO.opY rfl rfl rfl rfl rfl ?_
     refine OpE.val (W := NoB) (OpV.move (.inl rfl) rfl) rfl ?_
     refine VO.opY rfl rfl rfl rfl rfl ?_
     refine OpE.val (W := NoB) (OpV.move (.inl rfl) rfl) rfl ?_
     refine VO.opY rfl rfl rfl rfl rfl ?_
     refine OpE.call rfl hB rfl Tryz.call42 rfl (SpecN.spec (slices_Equal_win (by omega) (by first | omega | decide))) ?_
     rintro _ rfl
     refine VO.le _ (Le.boolT (t := 159) rfl (by rw [y2]; first | exact eqLs_self eqWn_self _ | rfl)) ?_
     refine VO.val rfl rfl (OpV.pickT rfl rfl rfl rfl rfl) ?_
     refine VO.mv rfl rfl rfl rfl ?_
     refine VO.opY rfl rfl rfl rfl rfl ?_
     refine OpE.val (W := NoB) (OpV.move (.inl rfl) rfl) rfl ?_
     refine VO.opY rfl rfl rfl rfl rfl ?_
     refine OpE.val (W := NoB) (OpV.move (.inl rfl) rfl) rfl ?_
     refine VO.opY rfl rfl rfl rfl rfl ?_
     refine OpE.val (W := NoB) (OpV.eql rfl rfl rfl) rfl ?_
     refine VO.le _ (Le.boolT (t := 164) rfl (decide_eq_true rfl)) ?_
     refine VO.val rfl rfl (OpV.pickT rfl rfl rfl rfl rfl) ?_
     refine VO.mv rfl rfl rfl rfl ?_
     refine VO.opY rfl rfl rfl rfl rfl ?_
     refine OpE.val (W := NoB) (OpV.move (.inl rfl) rfl) rfl ?_
     refine VO.opY rfl rfl rfl rfl rfl ?_
     refine OpE.val (W := NoB) (OpV.move (.inl rfl) rfl) rfl ?_
     refine VO.opY rfl rfl rfl rfl rfl ?_
     refine OpE.val (W := NoB) (OpV.eql rfl rfl rfl) rfl ?_
     refine VO.le _ (Le.boolT (t := 169) rfl (decide_eq_true y3)) ?_
     refine VO.val rfl rfl (OpV.pickT rfl rfl rfl rfl rfl) ?_
     refine VO.mv rfl rfl rfl rfl ?_
     refine VO.opY rfl rfl rfl rfl rfl ?_
     refine OpE.val (W := NoB) (OpV.move (.inl rfl) rfl) rfl ?_
     refine VO.opY rfl rfl rfl rfl rfl ?_
     refine OpE.val (W := NoB) (OpV.move (.inl rfl) rfl) rfl ?_
     refine VO.opY rfl rfl rfl rfl rfl ?_
     refine OpE.val (W := NoB) (OpV.eql rfl rfl rfl) rfl ?_
     refine VO.le _ (Le.boolT (t := 174) rfl (decide_eq_true y4)) ?_
     refine VO.val rfl rfl (OpV.pickT rfl rfl rfl rfl rfl) ?_
     refine VO.mv rfl rfl rfl rfl ?_
     refine VO.opY rfl rfl rfl rfl rfl ?_
     refine OpE.call rfl hB rfl Tryz.call29 rfl (SpecN.spec (rl_planned)) ?_
     rintro _ rfl
     refine VO.val rfl rfl (OpV.pickT rfl rfl rfl rfl rfl) ?_
     refine VO.ma rfl rfl rfl rfl ?_
     refine VO.nil ?_
     refine VC.ret ?_
     exact And.intro rfl rfl
end Go.Proofs.YtplphabekhaoaaaGreatDoor
