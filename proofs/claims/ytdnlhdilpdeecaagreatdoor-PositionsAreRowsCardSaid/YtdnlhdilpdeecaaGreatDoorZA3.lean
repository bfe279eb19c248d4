/- Part 3 of a proof: the walks and laws that it needs. -/
import Derived.Lib.Bytealg
import Derived.Lib.AtoiErrMem
import Derived.WideLaws
import Derived.Test.YtdnlhdilpdeecaaGreatDoorZA2
namespace Go.Proofs.YtdnlhdilpdeecaaGreatDoor
open Go.RowKit
set_option linter.unusedVariables false
set_option linter.unusedSimpArgs false
set_option maxRecDepth 100000 in
theorem rf_signL {n : Int}  :
  SpecN Tryz.prog 207 [avI n] (fun y => y = avI (cmpI n 0)) := by
 refine SpecN.of_VCN Tryz.func207 rfl Tryz.ntmps207 (Nle rfl) fun w A hB => ?_
 have hnew : True := trivial
 refine VC.sr ?_
 refine VO.ma rfl rfl rfl rfl ?_
 refine VO.nil ?_
 refine VC.seq ?_
 refine VC.block ?_
 refine VC.sr ?_
 refine VO.mv rfl rfl rfl rfl ?_
 refine VO.val rfl rfl (OpV.lss rfl rfl rfl) ?_
 refine VO.ma rfl rfl rfl rfl ?_
 refine VO.nil ?_
 refine VC.cond rfl (fun aH1b => ?_) (fun aH1b => ?_)
 ·have aH1 := aH1b
  try simp only [qqT, qqF, qqN, qqM, qqL, qqE] at aH1
  refine VC.sr ?_
  refine VO.ma rfl rfl rfl rfl ?_
  refine VO.nil ?_
  refine VC.ret ?_
  exact Exists.intro _ (And.intro (RetN.one Tryz.results207 (ResN.v rfl)) (by unfold cmpI; first | rw [if_pos (by omega)] | rw [if_neg (by omega), if_pos (by omega)] | rw [if_neg (by omega), if_neg (by omega)]))
 ·have aH1 := aH1b
  try simp only [qqT, qqF, qqN, qqM, qqL, qqE] at aH1
  refine VC.sr ?_
  refine VO.mv rfl rfl rfl rfl ?_
  refine VO.val rfl rfl (OpV.gtr rfl rfl rfl) ?_
  refine VO.ma rfl rfl rfl rfl ?_
  refine VO.nil ?_
  refine VC.cond rfl (fun aH2b => ?_) (fun aH2b => ?_)
  ·have aH2 := aH2b
   try simp only [qqT, qqF, qqN, qqM, qqL, qqE] at aH2
   refine VC.sr ?_
   refine VO.ma rfl rfl rfl rfl ?_
   refine VO.nil ?_
   refine VC.ret ?_
   exact Exists.intro _ (And.intro (RetN.one Tryz.results207 (ResN.v rfl)) (by unfold cmpI; first | rw [if_pos (by omega)] | rw [if_neg (by omega), if_pos (by omega)] | rw [if_neg (by omega), if_neg (by omega)]))
  ·have aH2 := aH2b
   try simp only [qqT, qqF, qqN, qqM, qqL, qqE] at aH2
   refine VC.skip ?_
   refine VC.sr ?_
   refine VO.ma rfl rfl rfl rfl ?_
   refine VO.nil ?_
   refine VC.ret ?_
   exact Exists.intro _ (And.intro (RetN.one Tryz.results207 (ResN.v rfl)) (by unfold cmpI; first | rw [if_pos (by omega)] | rw [if_neg (by omega), if_pos (by omega)] | rw [if_neg (by omega), if_neg (by omega)]))
set_option maxRecDepth 100000 in
theorem rf_MomentL {n : Int}  :
  SpecN Tryz.prog 131 [avI n] (fun y => y = avB (decide (0 ≤ n) && decide (n ≤ 345686399999))) := by
 refine SpecN.of_VCN Tryz.func131 rfl Tryz.ntmps131 (Nle rfl) fun w A hB => ?_
 have hnew : True := trivial
 refine VC.sr ?_
 refine VO.ma rfl rfl rfl rfl ?_
 refine VO.nil ?_
 refine VC.sr ?_
 refine VO.mv rfl rfl rfl rfl ?_
 refine VO.op rfl (OpE.call rfl hB rfl Tryz.call97 rfl (SpecN.spec (rf_in)) ?_)
 rintro _ rfl
 refine VO.ma rfl rfl rfl rfl ?_
 refine VO.nil ?_
 refine VC.ret ?_
 exact Exists.intro _ (And.intro (RetN.one Tryz.results131 (ResN.v rfl)) (rfl))
theorem cmpI_sub (a b : Int) : cmpI (a - b) 0 = cmpI a b := by unfold cmpI; split <;> (try split) <;> (try split) <;> (try split) <;> omega
theorem cmpLk_1 {a b : LookS} (h : a.at_ ≠ b.at_) : cmpI (a.at_ - b.at_) 0 = cmpLk a b := by
 rw [cmpI_sub, cmpLk_eq, if_pos (fun e => h (cmpI_0.1 e))]
theorem cmpLk_2 {a b : LookS} (h : a.at_ = b.at_) (h2 : sEq a.board b.board = false) : cmpB a.board b.board = cmpLk a b := by
 rw [cmpLk_eq, if_neg (fun e => e (cmpI_0.2 h)), if_pos (fun e => by rw [sEq_eq.2 (cmpB_eq.1 e)] at h2; cases h2)]
theorem cmpLk_3 {a b : LookS} (h : a.at_ = b.at_) (h2 : sEq a.board b.board = true) : cmpB a.name b.name = cmpLk a b := by
 rw [cmpLk_eq, if_neg (fun e => e (cmpI_0.2 h)), if_neg (fun e => e (cmpB_eq.2 (sEq_eq.1 h2)))]
set_option maxRecDepth 100000 in
theorem rf_lookOrder {a b : LookS} (ha : 0 ≤ a.at_ ∧ a.at_ ≤ 345686399999) (hb : 0 ≤ b.at_ ∧ b.at_ ≤ 345686399999) :
  SpecN Tryz.prog 132 [avT a, avT b] (fun y => y = avI (cmpLk a b)) := by
 refine SpecN.of_VCN Tryz.func132 rfl Tryz.ntmps132 (Nle rfl) fun w A hB => ?_
 have hnew : True := trivial
 refine VC.sr ?_
 refine VO.op rfl (OpE.box rfl hB rfl rfl rfl ?_)
 intro g2
 refine VO.op rfl (OpE.box rfl hB rfl rfl rfl ?_)
 intro g3
 refine VO.ma rfl rfl rfl rfl ?_
 refine VO.nil ?_
 refine VC.seq ?_
 refine VC.block ?_
 refine VC.sr ?_
 refine VO.val rfl rfl (OpV.fieldAddrO 2 rfl Tryz.underlying80 rfl rfl Tryz.sizeOf3 rfl) ?_
 refine VO.val rfl rfl (OpV.load_own (i := 0) rfl hB Tryz.isAgg3 rfl rfl rfl (fun h => h)) ?_
 refine VO.val rfl rfl (OpV.fieldAddrO 2 rfl Tryz.underlying80 rfl rfl Tryz.sizeOf3 rfl) ?_
 refine VO.val rfl rfl (OpV.load_own (i := 1) rfl hB Tryz.isAgg3 rfl rfl rfl (fun h => h)) ?_
 refine VO.val rfl rfl (OpV.neq rfl rfl rfl) ?_
 refine VO.ma rfl rfl rfl rfl ?_
 refine VO.nil ?_
 refine VC.cond rfl (fun aH1b => ?_) (fun aH1b => ?_)
 ·have aH1 := aH1b
  try simp only [qqT, qqF, qqN, qqM, qqL, qqE] at aH1
  refine VC.sr ?_
  refine VO.val rfl rfl (OpV.fieldAddrO 2 rfl Tryz.underlying80 rfl rfl Tryz.sizeOf3 rfl) ?_
  refine VO.val rfl rfl (OpV.load_own (i := 0) rfl hB Tryz.isAgg3 rfl rfl rfl (fun h => h)) ?_
  refine VO.val rfl rfl (OpV.fieldAddrO 2 rfl Tryz.underlying80 rfl rfl Tryz.sizeOf3 rfl) ?_
  refine VO.val rfl rfl (OpV.load_own (i := 1) rfl hB Tryz.isAgg3 rfl rfl rfl (fun h => h)) ?_
  refine VO.val rfl rfl (OpV.sub rfl rfl rfl (by unfold fits; omega)) ?_
  refine VO.op rfl (OpE.call rfl hB rfl Tryz.call207 rfl (SpecN.spec (rf_signL)) ?_)
  rintro _ rfl
  refine VO.ma rfl rfl rfl rfl ?_
  refine VO.nil ?_
  refine VC.ret ?_
  exact Exists.intro _ (And.intro (RetN.one Tryz.results132 (ResN.v rfl)) (by first | rw [cmpLk_1 (by omega)] | rw [cmpLk_2 (by omega) (by first | assumption | (simp_all; done))] | rw [cmpLk_3 (by omega) (by first | assumption | (simp_all; done))]))
 ·have aH1 := aH1b
  try simp only [qqT, qqF, qqN, qqM, qqL, qqE] at aH1
  refine VC.sr ?_
  refine VO.val rfl rfl (OpV.fieldAddrO 0 rfl Tryz.underlying80 rfl rfl Tryz.sizeOf9 rfl) ?_
  refine VO.val rfl rfl (OpV.load_own (i := 0) rfl hB Tryz.isAgg9 rfl rfl rfl (fun h => h)) ?_
  refine VO.val rfl rfl (OpV.fieldAddrO 0 rfl Tryz.underlying80 rfl rfl Tryz.sizeOf9 rfl) ?_
  refine VO.val rfl rfl (OpV.load_own (i := 1) rfl hB Tryz.isAgg9 rfl rfl rfl (fun h => h)) ?_
  refine VO.val rfl rfl (OpV.sneq rfl rfl rfl) ?_
  refine VO.ma rfl rfl rfl rfl ?_
  refine VO.nil ?_
  refine VC.cond rfl (fun aH2b => ?_) (fun aH2b => ?_)
  ·have aH2 := aH2b
   try simp only [qqT, qqF, qqN, qqM, qqL, qqE] at aH2
   refine VC.sr ?_
   refine VO.val rfl rfl (OpV.fieldAddrO 0 rfl Tryz.underlying80 rfl rfl Tryz.sizeOf9 rfl) ?_
   refine VO.val rfl rfl (OpV.load_own (i := 0) rfl hB Tryz.isAgg9 rfl rfl rfl (fun h => h)) ?_
   refine VO.val rfl rfl (OpV.fieldAddrO 0 rfl Tryz.underlying80 rfl rfl Tryz.sizeOf9 rfl) ?_
   refine VO.val rfl rfl (OpV.load_own (i := 1) rfl hB Tryz.isAgg9 rfl rfl rfl (fun h => h)) ?_
   refine VO.op rfl (OpE.call rfl hB rfl Tryz.call117 rfl (SpecN.spec (strings_Compare_S)) ?_)
   rintro _ rfl
   refine VO.ma rfl rfl rfl rfl ?_
   refine VO.nil ?_
   refine VC.ret ?_
   exact Exists.intro _ (And.intro (RetN.one Tryz.results132 (ResN.v rfl)) (by first | rw [cmpLk_1 (by omega)] | rw [cmpLk_2 (by omega) (by first | assumption | (simp_all; done))] | rw [cmpLk_3 (by omega) (by first | assumption | (simp_all; done))]))
  ·have aH2 := aH2b
   try simp only [qqT, qqF, qqN, qqM, qqL, qqE] at aH2
   refine VC.skip ?_
   refine VC.sr ?_
   refine VO.val rfl rfl (OpV.fieldAddrO 1 rfl Tryz.underlying80 rfl rfl Tryz.sizeOf9 rfl) ?_
   refine VO.val rfl rfl (OpV.load_own (i := 0) rfl hB Tryz.isAgg9 rfl rfl rfl (fun h => h)) ?_
   refine VO.val rfl rfl (OpV.fieldAddrO 1 rfl Tryz.underlying80 rfl rfl Tryz.sizeOf9 rfl) ?_
   refine VO.val rfl rfl (OpV.load_own (i := 1) rfl hB Tryz.isAgg9 rfl rfl rfl (fun h => h)) ?_
   refine VO.op rfl (OpE.call rfl hB rfl Tryz.call117 rfl (SpecN.spec (strings_Compare_S)) ?_)
   rintro _ rfl
   refine VO.ma rfl rfl rfl rfl ?_
   refine VO.nil ?_
   refine VC.ret ?_
   exact Exists.intro _ (And.intro (RetN.one Tryz.results132 (ResN.v rfl)) (by first | rw [cmpLk_1 (by omega)] | rw [cmpLk_2 (by omega) (by first | assumption | (simp_all; done))] | rw [cmpLk_3 (by omega) (by first | assumption | (simp_all; done))]))
set_option maxRecDepth 100000 in
theorem rf_sameThing {a b : LookS}  :
  SpecN Tryz.prog 135 [avT a, avT b] (fun y => y = avB (sameT a b)) := by
 refine SpecN.of_VCN Tryz.func135 rfl Tryz.ntmps135 (Nle rfl) fun w A hB => ?_
 have hnew : True := trivial
 refine VC.sr ?_
 refine VO.op rfl (OpE.box rfl hB rfl rfl rfl ?_)
 intro g2
 refine VO.op rfl (OpE.box rfl hB rfl rfl rfl ?_)
 intro g3
 refine VO.ma rfl rfl rfl rfl ?_
 refine VO.nil ?_
 refine VC.sr ?_
 refine VO.val rfl rfl (OpV.fieldAddrO 0 rfl Tryz.underlying80 rfl rfl Tryz.sizeOf9 rfl) ?_
 refine VO.val rfl rfl (OpV.load_own (i := 0) rfl hB Tryz.isAgg9 rfl rfl rfl (fun h => h)) ?_
 refine VO.val rfl rfl (OpV.fieldAddrO 0 rfl Tryz.underlying80 rfl rfl Tryz.sizeOf9 rfl) ?_
 refine VO.val rfl rfl (OpV.load_own (i := 1) rfl hB Tryz.isAgg9 rfl rfl rfl (fun h => h)) ?_
 refine VO.val rfl rfl (OpV.seql rfl rfl rfl) ?_
 refine VO.mv rfl rfl rfl rfl ?_
 refine VO.opG rfl rfl rfl rfl (fun aK1b => ?_) (fun aK1b => ?_)
 ·replace aK1b : _ = true := aK1b
  have aK1 := aK1b
  try simp only [qqT, qqF, qqN, qqM, qqL, qqE] at aK1
  refine OpE.val (W := NoB) (OpV.fieldAddrO 1 rfl Tryz.underlying80 rfl rfl Tryz.sizeOf9 rfl) rfl ?_
  refine VO.opY rfl rfl rfl rfl aK1b ?_
  refine OpE.val (W := NoB) (OpV.load_own (i := 0) rfl hB Tryz.isAgg9 rfl rfl rfl (fun h => h)) rfl ?_
  refine VO.opY rfl rfl rfl rfl aK1b ?_
  refine OpE.val (W := NoB) (OpV.fieldAddrO 1 rfl Tryz.underlying80 rfl rfl Tryz.sizeOf9 rfl) rfl ?_
  refine VO.opY rfl rfl rfl rfl aK1b ?_
  refine OpE.val (W := NoB) (OpV.load_own (i := 1) rfl hB Tryz.isAgg9 rfl rfl rfl (fun h => h)) rfl ?_
  refine VO.opY rfl rfl rfl rfl aK1b ?_
  refine OpE.val (W := NoB) (OpV.seql rfl rfl rfl) rfl ?_
  refine VO.val rfl rfl (OpV.pickT rfl rfl rfl rfl aK1b) ?_
  refine VO.ma rfl rfl rfl rfl ?_
  refine VO.nil ?_
  refine VC.ret ?_
  exact Exists.intro _ (And.intro (RetN.one Tryz.results135 (ResN.v rfl)) (by unfold sameT; first | rfl | (simp_all; done)))
 ·replace aK1b : _ = false := aK1b
  have aK1 := aK1b
  try simp only [qqT, qqF, qqN, qqM, qqL, qqE] at aK1
  refine VO.opX rfl rfl rfl rfl aK1b ?_
  refine VO.opX rfl rfl rfl rfl aK1b ?_
  refine VO.opX rfl rfl rfl rfl aK1b ?_
  refine VO.opX rfl rfl rfl rfl aK1b ?_
  refine VO.val rfl rfl (OpV.pickF rfl rfl rfl rfl aK1b) ?_
  refine VO.ma rfl rfl rfl rfl ?_
  refine VO.nil ?_
  refine VC.ret ?_
  exact Exists.intro _ (And.intro (RetN.one Tryz.results135 (ResN.v rfl)) (by unfold sameT; first | rfl | (simp_all; done)))
set_option maxRecDepth 100000 in
theorem rf_LooksFault1 {x o : LookS}  :
  SpecN Tryz.prog 134 [avT o, .at_ 8 (Sxc.cell x)] (fun y => y = avB (sameT o x)) := by
 refine SpecN.of_VCN Tryz.func134 rfl Tryz.ntmps134 (Nle rfl) fun w A hB => ?_
 have hnew : True := trivial
 refine VC.sr ?_
 refine VO.op rfl (OpE.box rfl hB rfl rfl rfl ?_)
 intro g2
 refine VO.ma rfl rfl rfl rfl ?_
 refine VO.nil ?_
 refine VC.sr ?_
 refine VO.val rfl rfl (OpV.loadK_own (i := 0) rfl hB Tryz.isAgg80 Tryz.sizeOf80 rfl rfl rfl (fun h => h)) ?_
 refine VO.val rfl rfl (OpV.loadK_at rfl hB OutW.no Tryz.isAgg80 Tryz.sizeOf80 rfl rfl) ?_
 refine VO.op rfl (OpE.call rfl hB rfl Tryz.call135 rfl (SpecN.spec (rf_sameThing)) ?_)
 rintro _ rfl
 refine VO.ma rfl rfl rfl rfl ?_
 refine VO.nil ?_
 refine VC.ret ?_
 exact Exists.intro _ (And.intro (RetN.one Tryz.results134 (ResN.v rfl)) (rfl))
set_option maxRecDepth 100000 in
theorem slices_IndexFunc_lk {xs : List LookS} {F : FuncId} {cs : List AV} {p : LookS → Bool} (hl : xs.length ≤ 1000000000) (hcall : ∀ us w, (callFunc F us).run Tryz.prog w = .ok (.enter F us) w) (hF : ∀ x, Spec Tryz.prog F ([avT x] ++ cs) (fun y => y = avB (p x))) :
  SpecN Tryz.prog 208 [avL xs, .fn F cs] (fun y => y = avI (fidx p xs)) := by
 refine SpecN.of_VCN Tryz.func208 rfl Tryz.ntmps208 (Nle rfl) fun w A hB => ?_
 have hnew : True := trivial
 refine VC.sr ?_
 refine VO.ma rfl rfl rfl rfl ?_
 refine VO.nil ?_
 refine VC.seq ?_
 refine VC.sr ?_
 refine VO.mv rfl rfl rfl rfl ?_
 refine VO.val rfl rfl (OpV.len_im rfl Tryz.underlying54 rfl) ?_
 refine VO.mv rfl rfl rfl rfl ?_
 refine VO.nil ?_
 refine VC.block ?_
 refine VC.loopK [(0, _), (1, _), (7, _)] ⟨rfl, rfl, rfl, trivial⟩ ({q : Nat // q ≤ xs.length ∧ ∀ j, j < q → p (xs.getD j default) = false}) (fun (iZ : {q : Nat // q ≤ xs.length ∧ ∀ j, j < q → p (xs.getD j default) = false}) => match iZ with | ⟨q, hq, hn⟩ => [(8, avI (q : Int))]) (fun (iZ : {q : Nat // q ≤ xs.length ∧ ∀ j, j < q → p (xs.getD j default) = false}) => match iZ with | ⟨q, hq, hn⟩ => []) (fun (iZ : {q : Nat // q ≤ xs.length ∧ ∀ j, j < q → p (xs.getD j default) = false}) => match iZ with | ⟨q, hq, hn⟩ => 0) (fun (iZ : {q : Nat // q ≤ xs.length ∧ ∀ j, j < q → p (xs.getD j default) = false}) => match iZ with | ⟨q, hq, hn⟩ => xs.length - q) ⟨0, Nat.zero_le _, fun j hj => absurd hj (Nat.not_lt_zero j)⟩ (Le.mk hB [] ⟨rfl, rfl, rfl, rfl, trivial⟩ rfl rfl (Nat.le_refl _)) ?_
 rintro ⟨q, hq, hn⟩
 show VC _ _ _ _ ⟨[(8, avI (q : Int))] ++ [(0, _), (1, _), (7, _)], [], 0⟩
 refine VC.sr ?_
 refine VO.val rfl rfl (OpV.lss rfl rfl rfl) ?_
 refine VO.nil ?_
 refine VC.seq ?_
 refine VC.cond rfl (fun aH1b => ?_) (fun aH1b => ?_)
 ·have aH1 := aH1b
  try simp only [qqT, qqF, qqN, qqM, qqL, qqE] at aH1
  refine VC.skip ?_
  refine VC.seq ?_
  refine VC.block ?_
  refine VC.sr ?_
  refine VO.mv rfl rfl rfl rfl ?_
  refine VO.ma rfl rfl rfl rfl ?_
  refine VO.nil ?_
  refine VC.sr ?_
  refine VO.mv rfl rfl rfl rfl ?_
  refine VO.mv rfl rfl rfl rfl ?_
  refine VO.mv rfl rfl rfl rfl ?_
  refine VO.val rfl rfl (OpV.indexAddr_E rfl Tryz.underlying54 Tryz.sizeOf80 rfl rfl rfl (by omega)) ?_
  refine VO.val rfl rfl (OpV.loadK_at rfl hB OutW.no Tryz.isAgg80 Tryz.sizeOf80 rfl rfl) ?_
  refine VO.op rfl (OpE.callF rfl hB rfl hcall rfl rfl (hF _) ?_)
  rintro _ rfl
  refine VO.nil ?_
  refine VC.cond rfl (fun aH2b => ?_) (fun aH2b => ?_)
  ·have aH2 := aH2b
   try simp only [qqT, qqF, qqN, qqM, qqL, qqE] at aH2
   refine VC.sr ?_
   refine VO.mv rfl rfl rfl rfl ?_
   refine VO.ma rfl rfl rfl rfl ?_
   refine VO.nil ?_
   refine VC.ret ?_
   exact Exists.intro _ (And.intro (RetN.one Tryz.results208 (ResN.v rfl)) (by first | (rw [fidx_found (d := default) (q := q) (by omega) hn (by assumption)]) | (rw [fidx_none (d := default) (fun j hj => hn j (by omega))])))
  ·have aH2 := aH2b
   try simp only [qqT, qqF, qqN, qqM, qqL, qqE] at aH2
   refine VC.skip ?_
   refine VC.region ?_
   refine VO.val rfl rfl (OpV.add rfl rfl rfl (by unfold fits; omega)) ?_
   refine VO.mv rfl rfl rfl rfl ?_
   refine VO.nil ?_
   exact Exists.intro (⟨q + 1, by omega, lt_succ_cases hn ((by assumption))⟩) (And.intro (Le.mk hB [] ⟨rfl, rfl, rfl, rfl, trivial⟩ rfl rfl (Nat.le_refl _)) (by first | omega | (show _ < _; omega) | (simp only []; omega)))
 ·have aH1 := aH1b
  try simp only [qqT, qqF, qqN, qqM, qqL, qqE] at aH1
  refine VC.exit ?_
  refine VC.sr ?_
  refine VO.ma rfl rfl rfl rfl ?_
  refine VO.nil ?_
  refine VC.ret ?_
  exact Exists.intro _ (And.intro (RetN.one Tryz.results208 (ResN.v rfl)) (by first | (rw [fidx_found (d := default) (q := q) (by omega) hn (by assumption)]) | (rw [fidx_none (d := default) (fun j hj => hn j (by omega))])))
set_option maxRecDepth 100000 in
theorem slices_ContainsFunc_lk {xs : List LookS} {F : FuncId} {cs : List AV} {p : LookS → Bool} (hl : xs.length ≤ 1000000000) (hcall : ∀ us w, (callFunc F us).run Tryz.prog w = .ok (.enter F us) w) (hF : ∀ x, Spec Tryz.prog F ([avT x] ++ cs) (fun y => y = avB (p x))) :
  SpecN Tryz.prog 133 [avL xs, .fn F cs] (fun y => y = avB (xs.any p)) := by
 refine SpecN.of_VCN Tryz.func133 rfl Tryz.ntmps133 (Nle rfl) fun w A hB => ?_
 have hnew : True := trivial
 refine VC.sr ?_
 refine VO.ma rfl rfl rfl rfl ?_
 refine VO.nil ?_
 refine VC.sr ?_
 refine VO.mv rfl rfl rfl rfl ?_
 refine VO.mv rfl rfl rfl rfl ?_
 refine VO.op rfl (OpE.call rfl hB rfl Tryz.call208 rfl (SpecN.spec (slices_IndexFunc_lk hl hcall hF)) ?_)
 rintro _ rfl
 refine VO.val rfl rfl (OpV.geq rfl rfl rfl) ?_
 refine VO.ma rfl rfl rfl rfl ?_
 refine VO.nil ?_
 refine VC.ret ?_
 exact Exists.intro _ (And.intro (RetN.one Tryz.results133 (ResN.v rfl)) (by rw [← fidx_any]))
theorem lt8 {f g : Nat → AV} (h0 : f 0 = g 0) (h1 : f 1 = g 1) (h2 : f 2 = g 2) (h3 : f 3 = g 3) (h4 : f 4 = g 4) (h5 : f 5 = g 5) (h6 : f 6 = g 6) (h7 : f 7 = g 7) : ∀ j, j < 8 → f j = g j := fun j hj => by
 match j, hj with
 | 0, _ => exact h0
 | 1, _ => exact h1
 | 2, _ => exact h2
 | 3, _ => exact h3
 | 4, _ => exact h4
 | 5, _ => exact h5
 | 6, _ => exact h6
 | 7, _ => exact h7
theorem lks_all {x : LookS} (h1 : keyF x.board = true) (h2 : keyF x.name = true) (h3 : keyF x.machine = true) (h4 : keyF x.nozzle = true) (h5 : keyF x.reel = true) : (lkStrs x).all keyF = true := by simp [lkStrs, h1, h2, h3, h4, h5]
theorem lks_no {x : LookS} (h : keyF x.board = false ∨ keyF x.name = false ∨ keyF x.machine = false ∨ keyF x.nozzle = false ∨ keyF x.reel = false) : (lkStrs x).all keyF = false := by
 rcases h with h | h | h | h | h <;> simp [lkStrs, h]
theorem mom_f {n : Int} (h : (decide (0 ≤ n) && decide (n ≤ 345686399999)) = false) : outR n 0 345686399999 = true := by unfold outR; simp at h ⊢; omega
theorem mom_t {n : Int} (h : (decide (0 ≤ n) && decide (n ≤ 345686399999)) = true) : outR n 0 345686399999 = false := by unfold outR; simp at h ⊢; omega
theorem in_f {n a b : Int} (h : (decide (a ≤ n) && decide (n ≤ b)) = false) : outR n a b = true := by unfold outR; simp at h ⊢; omega
theorem in_t {n a b : Int} (h : (decide (a ≤ n) && decide (n ≤ b)) = true) : outR n a b = false := by unfold outR; simp at h ⊢; omega
set_option maxRecDepth 100000 in
set_option maxHeartbeats 8000000 in
theorem rf_LooksFault {l : List LookS} (hs : SmLk l) :
    SpecN Tryz.prog 36 [avL l] (fun y => y = avI (lookF l)) := by
  refine SpecN.of_VCN Tryz.func36 rfl Tryz.ntmps36 (Nle rfl) fun w A hB => ?_
  have hnew : True := trivial
  refine VC.seq ?_
  have hl := hs.len
  refine VC.region ?_
  refine VO.ma rfl rfl rfl rfl ?_
  refine VO.nil ?_
  refine VC.seq ?_
  refine VC.sr ?_
  refine VO.mv rfl rfl rfl rfl ?_
  refine VO.val rfl rfl (OpV.len_im rfl Tryz.underlying54 rfl) ?_
  refine VO.val rfl rfl (OpV.gtr rfl rfl rfl) ?_
  refine VO.nil ?_
  refine VC.cond rfl (fun aH1b => ?_) (fun aH1b => ?_)
  · have aH1 := aH1b
    try simp only [qqT, qqF, qqN, qqM, qqL, qqE] at aH1
    refine VC.sr ?_
    refine VO.ma rfl rfl rfl rfl ?_
    refine VO.nil ?_
    refine VC.ret ?_
    exact Exists.intro _ (And.intro (RetN.one Tryz.results36 (ResN.v rfl)) (by rw [lookF_2 (by omega)]))
  · have aH1 := aH1b
    try simp only [qqT, qqF, qqN, qqM, qqL, qqE] at aH1
    refine VC.skip ?_
    refine VC.seq ?_
    refine VC.sr ?_
    refine VO.mv rfl rfl rfl rfl ?_
    refine VO.val rfl rfl (OpV.len_im rfl Tryz.underlying54 rfl) ?_
    refine VO.mv rfl rfl rfl rfl ?_
    refine VO.nil ?_
    refine VC.block ?_
    refine VC.loopK [(0, _), (10, _), (11, _)] ⟨rfl, rfl, rfl, trivial⟩ ({q : Nat // q ≤ l.length ∧ ∀ j, j < q → lookE l j = 0}) (fun (iZ : {q : Nat // q ≤ l.length ∧ ∀ j, j < q → lookE l j = 0}) => match iZ with | ⟨q, hq, hn⟩ => [(12, avI (q : Int))]) (fun (iZ : {q : Nat // q ≤ l.length ∧ ∀ j, j < q → lookE l j = 0}) => match iZ with | ⟨q, hq, hn⟩ => []) (fun (iZ : {q : Nat // q ≤ l.length ∧ ∀ j, j < q → lookE l j = 0}) => match iZ with | ⟨q, hq, hn⟩ => 0) (fun (iZ : {q : Nat // q ≤ l.length ∧ ∀ j, j < q → lookE l j = 0}) => match iZ with | ⟨q, hq, hn⟩ => l.length - q) ⟨0, Nat.zero_le _, fun j hj => absurd hj (Nat.not_lt_zero j)⟩ (Le.mk hB [] ⟨rfl, rfl, rfl, rfl, trivial⟩ rfl rfl (Nat.le_refl _)) ?_
    rintro ⟨q, hq, hn⟩
    show VC _ _ _ _ ⟨[(12, avI (q : Int))] ++ [(0, _), (10, _), (11, _)], [], 0⟩
    refine VC.sr ?_
    refine VO.val rfl rfl (OpV.lss rfl rfl rfl) ?_
    refine VO.nil ?_
    refine VC.seq ?_
    refine VC.cond rfl (fun aH2b => ?_) (fun aH2b => ?_)
    · have aH2 := aH2b
      try simp only [qqT, qqF, qqN, qqM, qqL, qqE] at aH2
      refine VC.skip ?_
      refine VC.seq ?_
      refine VC.block ?_
      refine VC.sr ?_
      refine VO.mv rfl rfl rfl rfl ?_
      refine VO.val rfl rfl (OpV.indexAddr_E rfl Tryz.underlying54 Tryz.sizeOf80 rfl rfl rfl (by omega)) ?_
      refine VO.val rfl rfl (OpV.loadK_at rfl hB OutW.no Tryz.isAgg80 Tryz.sizeOf80 rfl rfl) ?_
      refine VO.op rfl (OpE.alloc rfl hB rfl Tryz.zeroValue80 rfl ?_)
      intro g4
      refine VO.ma rfl rfl rfl rfl ?_
      refine VO.op rfl (OpE.store (i := 0) rfl hB rfl Tryz.sizeOf80 rfl rfl rfl rfl rfl rfl (Nle rfl) trivial ?_)
      refine VO.nil ?_
      refine VC.block ?_
      refine VC.sr ?_
      refine VO.val rfl rfl (OpV.fieldAddrO 0 rfl Tryz.underlying80 rfl rfl Tryz.sizeOf9 rfl) ?_
      refine VO.val rfl rfl (OpV.load_own (i := 0) rfl hB Tryz.isAgg9 rfl rfl rfl (fun h => h)) ?_
      refine VO.op rfl (OpE.call rfl hB rfl Tryz.call98 rfl (SpecN.spec (rf_Key (by have := hs.board q; omega))) ?_)
      rintro _ rfl
      refine VO.val rfl rfl (OpV.not rfl rfl) ?_
      refine VO.mv rfl rfl rfl rfl ?_
      refine VO.opG rfl rfl rfl rfl (fun aK3b => ?_) (fun aK3b => ?_)
      · replace aK3b : _ = false := aK3b
        have aK3 := aK3b
        try simp only [qqT, qqF, qqN, qqM, qqL, qqE] at aK3
        refine OpE.val (W := NoB) (OpV.fieldAddrO 1 rfl Tryz.underlying80 rfl rfl Tryz.sizeOf9 rfl) rfl ?_
        refine VO.opY rfl rfl rfl rfl aK3b ?_
        refine OpE.val (W := NoB) (OpV.load_own (i := 0) rfl hB Tryz.isAgg9 rfl rfl rfl (fun h => h)) rfl ?_
        refine VO.opY rfl rfl rfl rfl aK3b ?_
        refine OpE.call rfl hB rfl Tryz.call98 rfl (SpecN.spec (rf_Key (by have := hs.name q; omega))) ?_
        rintro _ rfl
        refine VO.opY rfl rfl rfl rfl aK3b ?_
        refine OpE.val (W := NoB) (OpV.not rfl rfl) rfl ?_
        refine VO.val rfl rfl (OpV.pickF rfl rfl rfl rfl aK3b) ?_
        refine VO.mv rfl rfl rfl rfl ?_
        refine VO.opG rfl rfl rfl rfl (fun aK4b => ?_) (fun aK4b => ?_)
        · replace aK4b : _ = false := aK4b
          have aK4 := aK4b
          try simp only [qqT, qqF, qqN, qqM, qqL, qqE] at aK4
          refine OpE.val (W := NoB) (OpV.fieldAddrO 5 rfl Tryz.underlying80 rfl rfl Tryz.sizeOf9 rfl) rfl ?_
          refine VO.opY rfl rfl rfl rfl aK4b ?_
          refine OpE.val (W := NoB) (OpV.load_own (i := 0) rfl hB Tryz.isAgg9 rfl rfl rfl (fun h => h)) rfl ?_
          refine VO.opY rfl rfl rfl rfl aK4b ?_
          refine OpE.call rfl hB rfl Tryz.call98 rfl (SpecN.spec (rf_Key (by have := hs.machine q; omega))) ?_
          rintro _ rfl
          refine VO.opY rfl rfl rfl rfl aK4b ?_
          refine OpE.val (W := NoB) (OpV.not rfl rfl) rfl ?_
          refine VO.val rfl rfl (OpV.pickF rfl rfl rfl rfl aK4b) ?_
          refine VO.mv rfl rfl rfl rfl ?_
          refine VO.opG rfl rfl rfl rfl (fun aK5b => ?_) (fun aK5b => ?_)
          · replace aK5b : _ = false := aK5b
            have aK5 := aK5b
            try simp only [qqT, qqF, qqN, qqM, qqL, qqE] at aK5
            refine OpE.val (W := NoB) (OpV.fieldAddrO 6 rfl Tryz.underlying80 rfl rfl Tryz.sizeOf9 rfl) rfl ?_
            refine VO.opY rfl rfl rfl rfl aK5b ?_
            refine OpE.val (W := NoB) (OpV.load_own (i := 0) rfl hB Tryz.isAgg9 rfl rfl rfl (fun h => h)) rfl ?_
            refine VO.opY rfl rfl rfl rfl aK5b ?_
            refine OpE.call rfl hB rfl Tryz.call98 rfl (SpecN.spec (rf_Key (by have := hs.nozzle q; omega))) ?_
            rintro _ rfl
            refine VO.opY rfl rfl rfl rfl aK5b ?_
            refine OpE.val (W := NoB) (OpV.not rfl rfl) rfl ?_
            refine VO.val rfl rfl (OpV.pickF rfl rfl rfl rfl aK5b) ?_
            refine VO.mv rfl rfl rfl rfl ?_
            refine VO.opG rfl rfl rfl rfl (fun aK6b => ?_) (fun aK6b => ?_)
            · replace aK6b : _ = false := aK6b
              have aK6 := aK6b
              try simp only [qqT, qqF, qqN, qqM, qqL, qqE] at aK6
              refine OpE.val (W := NoB) (OpV.fieldAddrO 7 rfl Tryz.underlying80 rfl rfl Tryz.sizeOf9 rfl) rfl ?_
              refine VO.opY rfl rfl rfl rfl aK6b ?_
              refine OpE.val (W := NoB) (OpV.load_own (i := 0) rfl hB Tryz.isAgg9 rfl rfl rfl (fun h => h)) rfl ?_
              refine VO.opY rfl rfl rfl rfl aK6b ?_
              refine OpE.call rfl hB rfl Tryz.call98 rfl (SpecN.spec (rf_Key (by have := hs.reel q; omega))) ?_
              rintro _ rfl
              refine VO.opY rfl rfl rfl rfl aK6b ?_
              refine OpE.val (W := NoB) (OpV.not rfl rfl) rfl ?_
              refine VO.val rfl rfl (OpV.pickF rfl rfl rfl rfl aK6b) ?_
              refine VO.ma rfl rfl rfl rfl ?_
              refine VO.nil ?_
              refine VC.cond rfl (fun h2b => ?_) (fun h2b => ?_)
              · have h2 := h2b
                try simp only [qqT, qqF, qqN, qqM, qqL, qqE] at h2
                have k2 : (lkStrs (l.getD q default)).all keyF = false := lks_no (by simp_all)
                refine VC.sr ?_
                refine VO.ma rfl rfl rfl rfl ?_
                refine VO.nil ?_
                refine VC.ret ?_
                exact Exists.intro _ (And.intro (RetN.one Tryz.results36 (ResN.v rfl)) (by rw [lookF_at (by omega) (by omega) hn (by rw [lookE_5 k2]; decide), lookE_5 k2]))
              · have h2 := h2b
                try simp only [qqT, qqF, qqN, qqM, qqL, qqE] at h2
                have k2 : (lkStrs (l.getD q default)).all keyF = true := lks_all (by simp_all) (by simp_all) (by simp_all) (by simp_all) (by simp_all)
                refine VC.sr ?_
                refine VO.val rfl rfl (OpV.fieldAddrO 2 rfl Tryz.underlying80 rfl rfl Tryz.sizeOf3 rfl) ?_
                refine VO.val rfl rfl (OpV.load_own (i := 0) rfl hB Tryz.isAgg3 rfl rfl rfl (fun h => h)) ?_
                refine VO.op rfl (OpE.call rfl hB rfl Tryz.call131 rfl (SpecN.spec (rf_MomentL)) ?_)
                rintro _ rfl
                refine VO.val rfl rfl (OpV.not rfl rfl) ?_
                refine VO.ma rfl rfl rfl rfl ?_
                refine VO.nil ?_
                refine VC.cond rfl (fun h3b => ?_) (fun h3b => ?_)
                · have h3 := h3b
                  try simp only [qqT, qqF, qqN, qqM, qqL, qqE] at h3
                  have k3 : outR (l.getD q default).at_ 0 345686399999 = true := mom_f (not_true_false h3b)
                  refine VC.sr ?_
                  refine VO.ma rfl rfl rfl rfl ?_
                  refine VO.nil ?_
                  refine VC.ret ?_
                  exact Exists.intro _ (And.intro (RetN.one Tryz.results36 (ResN.v rfl)) (by rw [lookF_at (by omega) (by omega) hn (by rw [lookE_1 k2 k3]; decide), lookE_1 k2 k3]))
                · have h3 := h3b
                  try simp only [qqT, qqF, qqN, qqM, qqL, qqE] at h3
                  have k3 : outR (l.getD q default).at_ 0 345686399999 = false := mom_t (not_false_true h3b)
                  have k3' : 0 ≤ (l.getD q default).at_ ∧ (l.getD q default).at_ ≤ 345686399999 := outR_inL (by rw [k3]; simp)
                  refine VC.sr ?_
                  refine VO.val rfl rfl (OpV.fieldAddrO 3 rfl Tryz.underlying80 rfl rfl Tryz.sizeOf3 rfl) ?_
                  refine VO.val rfl rfl (OpV.load_own (i := 0) rfl hB Tryz.isAgg3 rfl rfl rfl (fun h => h)) ?_
                  refine VO.op rfl (OpE.call rfl hB rfl Tryz.call97 rfl (SpecN.spec (rf_in)) ?_)
                  rintro _ rfl
                  refine VO.val rfl rfl (OpV.not rfl rfl) ?_
                  refine VO.ma rfl rfl rfl rfl ?_
                  refine VO.nil ?_
                  refine VC.cond rfl (fun h4b => ?_) (fun h4b => ?_)
                  · have h4 := h4b
                    try simp only [qqT, qqF, qqN, qqM, qqL, qqE] at h4
                    have k4 : outR (l.getD q default).verdict 1 5 = true := in_f (not_true_false h4b)
                    refine VC.sr ?_
                    refine VO.ma rfl rfl rfl rfl ?_
                    refine VO.nil ?_
                    refine VC.ret ?_
                    exact Exists.intro _ (And.intro (RetN.one Tryz.results36 (ResN.v rfl)) (by rw [lookF_at (by omega) (by omega) hn (by rw [lookE_4 k2 k3 k4]; decide), lookE_4 k2 k3 k4]))
                  · have h4 := h4b
                    try simp only [qqT, qqF, qqN, qqM, qqL, qqE] at h4
                    have k4 : outR (l.getD q default).verdict 1 5 = false := in_t (not_false_true h4b)
                    refine VC.seq ?_
                    refine VC.draw (fun _ => NoB) hB (by kernel_rfl) ?_
                    refine VA.take (i := 0) rfl (by kernel_rfl) (by kernel_rfl) (by kernel_rfl) rfl rfl (OpV.move (.inl rfl) rfl) ?_
                    refine VA.take (i := 1) rfl (by kernel_rfl) (by kernel_rfl) (by kernel_rfl) rfl rfl (OpV.gtr rfl rfl rfl) ?_
                    refine VA.take (i := 2) rfl (by kernel_rfl) (by kernel_rfl) (by kernel_rfl) rfl rfl (OpV.move (.inl rfl) rfl) ?_
                    refine VA.split (t := 59) rfl (fun aK7b => ?_) (fun aK7b => ?_)
                    · have aK7 := aK7b
                      try simp only [qqT, qqF, qqN, qqM, qqL, qqE] at aK7
                      refine VA.takeY (i := 3) rfl (by kernel_rfl) (by kernel_rfl) (by kernel_rfl) rfl rfl rfl rfl aK7b (OpV.move (.inl rfl) rfl) ?_
                      refine VA.takeY (i := 4) rfl (by kernel_rfl) (by kernel_rfl) (by kernel_rfl) rfl rfl rfl rfl aK7b (OpV.move (.inl rfl) rfl) ?_
                      refine VA.takeY (i := 5) rfl (by kernel_rfl) (by kernel_rfl) (by kernel_rfl) rfl rfl rfl rfl aK7b (OpV.sub rfl rfl rfl (by unfold fits; omega)) ?_
                      refine VA.takeY (i := 6) rfl (by kernel_rfl) (by kernel_rfl) (by kernel_rfl) rfl rfl rfl rfl aK7b (OpV.indexAddr_E rfl Tryz.underlying54 Tryz.sizeOf80 rfl rfl (show ((q : Int) - 1) = ((q - 1 : Nat) : Int) by omega) (by omega)) ?_
                      refine VA.takeY (i := 7) rfl (by kernel_rfl) (by kernel_rfl) (by kernel_rfl) rfl rfl rfl rfl aK7b (OpV.loadK_at rfl hB OutW.wi0 Tryz.isAgg80 Tryz.sizeOf80 rfl rfl) ?_
                      refine VA.takeY (i := 8) rfl (by kernel_rfl) (by kernel_rfl) (by kernel_rfl) rfl rfl rfl rfl aK7b (OpV.loadK_own (i := 0) rfl hB Tryz.isAgg80 Tryz.sizeOf80 rfl rfl rfl Wi.not0) ?_
                      refine VA.all (rs := [9]) (by kernel_rfl) (by decide) ?_
                      refine ⟨⟨_, rfl, .inr ⟨_, _, _, rfl, rfl, (look_k rfl aK7b)⟩, ?_⟩, trivial⟩
                      refine OpE.call rfl hB rfl Tryz.call132 rfl (SpecN.spec (rf_lookOrder (a := l.getD (q - 1) default) (b := l.getD q default) (lookE_zero (hn (q - 1) (by omega))).at_ k3')) ?_
                      rintro _ rfl
                      refine VA.takeY (i := 10) rfl (by kernel_rfl) (by kernel_rfl) (by kernel_rfl) rfl rfl rfl rfl aK7b (OpV.geq rfl rfl rfl) ?_
                      refine VA.take (i := 11) rfl (by kernel_rfl) (by kernel_rfl) (by kernel_rfl) rfl rfl (OpV.pickT rfl rfl rfl rfl aK7b) ?_
                      refine VA.take (i := 12) rfl (by kernel_rfl) (by kernel_rfl) (by kernel_rfl) rfl rfl (OpV.move (.inr rfl) rfl) ?_
                      refine VA.done (by kernel_rfl) ?_
                      refine VC.cond rfl (fun h5b => ?_) (fun h5b => ?_)
                      · have h5 := h5b
                        try simp only [qqT, qqF, qqN, qqM, qqL, qqE] at h5
                        refine VC.sr ?_
                        refine VO.ma rfl rfl rfl rfl ?_
                        refine VO.nil ?_
                        refine VC.ret ?_
                        exact Exists.intro _ (And.intro (RetN.one Tryz.results36 (ResN.v rfl)) (by rw [lookF_at (by omega) (by omega) hn (by rw [lookE_7 k2 k3 k4 (by omega) (by omega)]; decide), lookE_7 k2 k3 k4 (by omega) (by omega)]))
                      · have h5 := h5b
                        try simp only [qqT, qqF, qqN, qqM, qqL, qqE] at h5
                        refine VC.skip ?_
                        refine VC.region ?_
                        refine VO.val rfl rfl (OpV.add rfl rfl rfl (by unfold fits; omega)) ?_
                        refine VO.mv rfl rfl rfl rfl ?_
                        refine VO.nil ?_
                        exact Exists.intro (⟨q + 1, by omega, lt_succ_cases hn ((lookE_0 k2 k3 k4 (by first | exact .inl (by omega) | exact .inr (by omega))))⟩) (And.intro (Le.mk hB [] ⟨rfl, rfl, rfl, rfl, trivial⟩ rfl rfl (Nat.le_refl _)) (by first | omega | (show _ < _; omega) | (simp only []; omega)))
                    · have aK7 := aK7b
                      try simp only [qqT, qqF, qqN, qqM, qqL, qqE] at aK7
                      refine VA.takeX (i := 3) rfl (by kernel_rfl) (by kernel_rfl) (by kernel_rfl) rfl rfl rfl rfl aK7b ?_
                      refine VA.takeX (i := 4) rfl (by kernel_rfl) (by kernel_rfl) (by kernel_rfl) rfl rfl rfl rfl aK7b ?_
                      refine VA.takeX (i := 5) rfl (by kernel_rfl) (by kernel_rfl) (by kernel_rfl) rfl rfl rfl rfl aK7b ?_
                      refine VA.takeX (i := 6) rfl (by kernel_rfl) (by kernel_rfl) (by kernel_rfl) rfl rfl rfl rfl aK7b ?_
                      refine VA.takeX (i := 7) rfl (by kernel_rfl) (by kernel_rfl) (by kernel_rfl) rfl rfl rfl rfl aK7b ?_
                      refine VA.takeX (i := 8) rfl (by kernel_rfl) (by kernel_rfl) (by kernel_rfl) rfl rfl rfl rfl aK7b ?_
                      refine VA.takeX (i := 9) rfl (by kernel_rfl) (by kernel_rfl) (by kernel_rfl) rfl rfl rfl rfl aK7b ?_
                      refine VA.takeX (i := 10) rfl (by kernel_rfl) (by kernel_rfl) (by kernel_rfl) rfl rfl rfl rfl aK7b ?_
                      refine VA.take (i := 11) rfl (by kernel_rfl) (by kernel_rfl) (by kernel_rfl) rfl rfl (OpV.pickF rfl rfl rfl rfl aK7b) ?_
                      refine VA.take (i := 12) rfl (by kernel_rfl) (by kernel_rfl) (by kernel_rfl) rfl rfl (OpV.move (.inr rfl) rfl) ?_
                      refine VA.done (by kernel_rfl) ?_
                      refine VC.condF rfl rfl ?_
                      refine VC.skip ?_
                      refine VC.region ?_
                      refine VO.val rfl rfl (OpV.add rfl rfl rfl (by unfold fits; omega)) ?_
                      refine VO.mv rfl rfl rfl rfl ?_
                      refine VO.nil ?_
                      exact Exists.intro (⟨q + 1, by omega, lt_succ_cases hn ((lookE_0 k2 k3 k4 (by first | exact .inl (by omega) | exact .inr (by omega))))⟩) (And.intro (Le.mk hB [] ⟨rfl, rfl, rfl, rfl, trivial⟩ rfl rfl (Nat.le_refl _)) (by first | omega | (show _ < _; omega) | (simp only []; omega)))
            · replace aK6b : _ = true := aK6b
              have aK6 := aK6b
              try simp only [qqT, qqF, qqN, qqM, qqL, qqE] at aK6
              refine VO.opX rfl rfl rfl rfl aK6b ?_
              refine VO.opX rfl rfl rfl rfl aK6b ?_
              refine VO.opX rfl rfl rfl rfl aK6b ?_
              refine VO.val rfl rfl (OpV.pickT rfl rfl rfl rfl aK6b) ?_
              refine VO.ma rfl rfl rfl rfl ?_
              refine VO.nil ?_
              refine VC.condT rfl rfl ?_
              have k2 : (lkStrs (l.getD q default)).all keyF = false := lks_no (by simp_all)
              refine VC.sr ?_
              refine VO.ma rfl rfl rfl rfl ?_
              refine VO.nil ?_
              refine VC.ret ?_
              exact Exists.intro _ (And.intro (RetN.one Tryz.results36 (ResN.v rfl)) (by rw [lookF_at (by omega) (by omega) hn (by rw [lookE_5 k2]; decide), lookE_5 k2]))
          · replace aK5b : _ = true := aK5b
            have aK5 := aK5b
            try simp only [qqT, qqF, qqN, qqM, qqL, qqE] at aK5
            refine VO.opX rfl rfl rfl rfl aK5b ?_
            refine VO.opX rfl rfl rfl rfl aK5b ?_
            refine VO.opX rfl rfl rfl rfl aK5b ?_
            refine VO.val rfl rfl (OpV.pickT rfl rfl rfl rfl aK5b) ?_
            refine VO.mv rfl rfl rfl rfl ?_
            refine VO.opX rfl rfl rfl rfl rfl ?_
            refine VO.opX rfl rfl rfl rfl rfl ?_
            refine VO.opX rfl rfl rfl rfl rfl ?_
            refine VO.opX rfl rfl rfl rfl rfl ?_
            refine VO.val rfl rfl (OpV.pickT rfl rfl rfl rfl rfl) ?_
            refine VO.ma rfl rfl rfl rfl ?_
            refine VO.nil ?_
            refine VC.condT rfl rfl ?_
            have k2 : (lkStrs (l.getD q default)).all keyF = false := lks_no (by simp_all)
            refine VC.sr ?_
            refine VO.ma rfl rfl rfl rfl ?_
            refine VO.nil ?_
            refine VC.ret ?_
            exact Exists.intro _ (And.intro (RetN.one Tryz.results36 (ResN.v rfl)) (by rw [lookF_at (by omega) (by omega) hn (by rw [lookE_5 k2]; decide), lookE_5 k2]))
        · replace aK4b : _ = true := aK4b
          have aK4 := aK4b
          try simp only [qqT, qqF, qqN, qqM, qqL, qqE] at aK4
          refine VO.opX rfl rfl rfl rfl aK4b ?_
          refine VO.opX rfl rfl rfl rfl aK4b ?_
          refine VO.opX rfl rfl rfl rfl aK4b ?_
          refine VO.val rfl rfl (OpV.pickT rfl rfl rfl rfl aK4b) ?_
          refine VO.mv rfl rfl rfl rfl ?_
          refine VO.opX rfl rfl rfl rfl rfl ?_
          refine VO.opX rfl rfl rfl rfl rfl ?_
          refine VO.opX rfl rfl rfl rfl rfl ?_
          refine VO.opX rfl rfl rfl rfl rfl ?_
          refine VO.val rfl rfl (OpV.pickT rfl rfl rfl rfl rfl) ?_
          refine VO.mv rfl rfl rfl rfl ?_
          refine VO.opX rfl rfl rfl rfl rfl ?_
          refine VO.opX rfl rfl rfl rfl rfl ?_
          refine VO.opX rfl rfl rfl rfl rfl ?_
          refine VO.opX rfl rfl rfl rfl rfl ?_
          refine VO.val rfl rfl (OpV.pickT rfl rfl rfl rfl rfl) ?_
          refine VO.ma rfl rfl rfl rfl ?_
          refine VO.nil ?_
          refine VC.condT rfl rfl ?_
          have k2 : (lkStrs (l.getD q default)).all keyF = false := lks_no (by simp_all)
          refine VC.sr ?_
          refine VO.ma rfl rfl rfl rfl ?_
          refine VO.nil ?_
          refine VC.ret ?_
          exact Exists.intro _ (And.intro (RetN.one Tryz.results36 (ResN.v rfl)) (by rw [lookF_at (by omega) (by omega) hn (by rw [lookE_5 k2]; decide), lookE_5 k2]))
      · replace aK3b : _ = true := aK3b
        have aK3 := aK3b
        try simp only [qqT, qqF, qqN, qqM, qqL, qqE] at aK3
        refine VO.opX rfl rfl rfl rfl aK3b ?_
        refine VO.opX rfl rfl rfl rfl aK3b ?_
        refine VO.opX rfl rfl rfl rfl aK3b ?_
        refine VO.val rfl rfl (OpV.pickT rfl rfl rfl rfl aK3b) ?_
        refine VO.mv rfl rfl rfl rfl ?_
        refine VO.opX rfl rfl rfl rfl rfl ?_
        refine VO.opX rfl rfl rfl rfl rfl ?_
        refine VO.opX rfl rfl rfl rfl rfl ?_
        refine VO.opX rfl rfl rfl rfl rfl ?_
        refine VO.val rfl rfl (OpV.pickT rfl rfl rfl rfl rfl) ?_
        refine VO.mv rfl rfl rfl rfl ?_
        refine VO.opX rfl rfl rfl rfl rfl ?_
        refine VO.opX rfl rfl rfl rfl rfl ?_
        refine VO.opX rfl rfl rfl rfl rfl ?_
        refine VO.opX rfl rfl rfl rfl rfl ?_
        refine VO.val rfl rfl (OpV.pickT rfl rfl rfl rfl rfl) ?_
        refine VO.mv rfl rfl rfl rfl ?_
        refine VO.opX rfl rfl rfl rfl rfl ?_
        refine VO.opX rfl rfl rfl rfl rfl ?_
        refine VO.opX rfl rfl rfl rfl rfl ?_
        refine VO.opX rfl rfl rfl rfl rfl ?_
        refine VO.val rfl rfl (OpV.pickT rfl rfl rfl rfl rfl) ?_
        refine VO.ma rfl rfl rfl rfl ?_
        refine VO.nil ?_
        refine VC.condT rfl rfl ?_
        have k2 : (lkStrs (l.getD q default)).all keyF = false := lks_no (by simp_all)
        refine VC.sr ?_
        refine VO.ma rfl rfl rfl rfl ?_
        refine VO.nil ?_
        refine VC.ret ?_
        exact Exists.intro _ (And.intro (RetN.one Tryz.results36 (ResN.v rfl)) (by rw [lookF_at (by omega) (by omega) hn (by rw [lookE_5 k2]; decide), lookE_5 k2]))
    · have aH2 := aH2b
      try simp only [qqT, qqF, qqN, qqM, qqL, qqE] at aH2
      refine VC.exit ?_
      refine VC.seq ?_
      refine VC.seq ?_
      have hl0 : ∀ j, j < l.length → lookE l j = 0 := fun j hj => hn j (by omega)
      refine VC.region ?_
      refine VO.mv rfl rfl rfl rfl ?_
      refine VO.val rfl rfl (OpV.len_im rfl Tryz.underlying54 rfl) ?_
      refine VO.mv rfl rfl rfl rfl ?_
      refine VO.nil ?_
      refine VC.block ?_
      refine VC.loopK [(0, _), (70, _), (71, _)] ⟨rfl, rfl, rfl, trivial⟩ ({r : Nat // r ≤ l.length ∧ ∀ j, j < r → twE l j = 0}) (fun (iZ : {r : Nat // r ≤ l.length ∧ ∀ j, j < r → twE l j = 0}) => match iZ with | ⟨r, hq1, hn1⟩ => [(72, avI (r : Int))]) (fun (iZ : {r : Nat // r ≤ l.length ∧ ∀ j, j < r → twE l j = 0}) => match iZ with | ⟨r, hq1, hn1⟩ => []) (fun (iZ : {r : Nat // r ≤ l.length ∧ ∀ j, j < r → twE l j = 0}) => match iZ with | ⟨r, hq1, hn1⟩ => 0) (fun (iZ : {r : Nat // r ≤ l.length ∧ ∀ j, j < r → twE l j = 0}) => match iZ with | ⟨r, hq1, hn1⟩ => l.length - r) ⟨0, Nat.zero_le _, fun j hj => absurd hj (Nat.not_lt_zero j)⟩ (Le.mk hB [] ⟨rfl, rfl, rfl, rfl, trivial⟩ rfl rfl (Nat.le_refl _)) ?_
      rintro ⟨r, hq1, hn1⟩
      show VC _ _ _ _ ⟨[(72, avI (r : Int))] ++ [(0, _), (70, _), (71, _)], [], 0⟩
      refine VC.sr ?_
      refine VO.val rfl rfl (OpV.lss rfl rfl rfl) ?_
      refine VO.nil ?_
      refine VC.seq ?_
      refine VC.cond rfl (fun aH8b => ?_) (fun aH8b => ?_)
      · have aH8 := aH8b
        try simp only [qqT, qqF, qqN, qqM, qqL, qqE] at aH8
        refine VC.skip ?_
        refine VC.seq ?_
        refine VC.block ?_
        refine VC.sr ?_
        refine VO.mv rfl rfl rfl rfl ?_
        refine VO.val rfl rfl (OpV.indexAddr_E rfl Tryz.underlying54 Tryz.sizeOf80 rfl rfl rfl (by omega)) ?_
        refine VO.val rfl rfl (OpV.loadK_at rfl hB OutW.no Tryz.isAgg80 Tryz.sizeOf80 rfl rfl) ?_
        refine VO.op rfl (OpE.alloc rfl hB rfl Tryz.zeroValue80 rfl ?_)
        intro g6
        refine VO.ma rfl rfl rfl rfl ?_
        refine VO.op rfl (OpE.store (i := 0) rfl hB rfl Tryz.sizeOf80 rfl rfl rfl rfl rfl rfl (Nle rfl) trivial ?_)
        refine VO.nil ?_
        refine VC.sr ?_
        refine VO.mv rfl rfl rfl rfl ?_
        refine VO.mv rfl rfl rfl rfl ?_
        refine VO.val rfl rfl (OpV.slice_L (h := r) rfl Tryz.underlying54 Tryz.sizeOf80 rfl rfl ⟨_, _, rfl, rfl⟩ (by omega) (by omega)) ?_
        refine VO.val rfl rfl (OpV.makeFunc1 rfl rfl) ?_
        refine VO.op rfl (OpE.callL rfl hB rfl Tryz.call133 (slices_ContainsFunc_lk (p := fun o => sameT o (l.getD r default)) (by rw [len_cut (by omega)]; omega) Tryz.call134 (fun x => rf_LooksFault1.spec)) (ArgsP.cons (ArgP.ev rfl) (ArgsP.cons (ArgP.fn1 (i := 0) (m := 8) (f := Sxc.cell (l.getD r default)) rfl rfl (Nle rfl) (lt8 rfl rfl rfl rfl rfl rfl rfl rfl)) (ArgsP.nil))) ?_)
        rintro _ rfl
        refine VO.nil ?_
        refine VC.cond rfl (fun h7b => ?_) (fun h7b => ?_)
        · have h7 := h7b
          try simp only [qqT, qqF, qqN, qqM, qqL, qqE] at h7
          refine VC.sr ?_
          refine VO.ma rfl rfl rfl rfl ?_
          refine VO.nil ?_
          refine VC.ret ?_
          exact Exists.intro _ (And.intro (RetN.one Tryz.results36 (ResN.v rfl)) (by rw [lookF_tw (by omega) hl0 (by omega) hn1 (by rw [twE_6 (by first | assumption | (have h := h7b; simpa using h))]; decide), twE_6 (by first | assumption | (have h := h7b; simpa using h))]))
        · have h7 := h7b
          try simp only [qqT, qqF, qqN, qqM, qqL, qqE] at h7
          refine VC.skip ?_
          refine VC.region ?_
          refine VO.val rfl rfl (OpV.add rfl rfl rfl (by unfold fits; omega)) ?_
          refine VO.mv rfl rfl rfl rfl ?_
          refine VO.nil ?_
          exact Exists.intro (⟨r + 1, by omega, lt_succ_cases hn1 ((twE_0 (by first | assumption | (have h := h7b; simpa using h))))⟩) (And.intro (Le.mk hB [] ⟨rfl, rfl, rfl, rfl, trivial⟩ rfl rfl (Nat.le_refl _)) (by first | omega | (show _ < _; omega) | (simp only []; omega)))
      · have aH8 := aH8b
        try simp only [qqT, qqF, qqN, qqM, qqL, qqE] at aH8
        refine VC.exit ?_
        refine VC.sr ?_
        refine VO.ma rfl rfl rfl rfl ?_
        refine VO.nil ?_
        refine VC.ret ?_
        exact Exists.intro _ (And.intro (RetN.one Tryz.results36 (ResN.v rfl)) (by rw [lookF_ok (by omega) hl0 (fun j hj => hn1 j (by omega))]))
end Go.Proofs.YtdnlhdilpdeecaaGreatDoor
namespace Go.Proofs.YtdnlhdilpdeecaaGreatDoor
open Go.RowKit
set_option linter.unusedVariables false
set_option linter.unusedSimpArgs false

structure BodyS where
 part : ByteArray
 wide : Int
 high : Int
instance : Inhabited BodyS := ⟨⟨ByteArray.empty, 0, 0⟩⟩
instance : Sxc BodyS where
 k := 3
 pos := by decide
 cell m j := match j with
  | 0 => avS m.part
  | 1 => avI m.wide
  | 2 => avI m.high
  | _ => .any
structure PairS where
 name : ByteArray
 value : ByteArray
instance : Inhabited PairS := ⟨⟨ByteArray.empty, ByteArray.empty⟩⟩
instance : Sxc PairS where
 k := 2
 pos := by decide
 cell m j := match j with
  | 0 => avS m.name
  | 1 => avS m.value
  | _ => .any
section
variable {l : List BodyS} {i : Nat}
end
end Go.Proofs.YtdnlhdilpdeecaaGreatDoor
namespace Go.Proofs.YtdnlhdilpdeecaaGreatDoor
open Go.RowKit
set_option linter.unusedVariables false
set_option linter.unusedSimpArgs false
def decB (i : Nat) : ByteArray := ⟨(Lib.decDigits i).toArray⟩
theorem itoa_100 {i : Nat} (hi : i < 100) : SpecN Tryz.prog 130 [avI (i : Int)] (fun y => y = avS (decB i)) := by
 intro w us ha
 rw [args1 ha]
 refine (Tryz.strconv_Itoa_small i hi w).mono ?_
 rintro e w' ⟨rfl, rfl⟩
 exact ⟨_, _, rfl, rfl, .v _, Chg.refl _ _, trivial⟩
theorem flat_pairs (xs : List PairS) : FlatA (rowL xs) := flat_rowL (fun x j hj => by
 match j, hj with
 | 0, _ => exact ⟨_, rfl⟩
 | 1, _ => exact ⟨_, rfl⟩) xs
section
variable {l : List LookS} {q : Nat} (hq : q < l.length)
include hq
end
end Go.Proofs.YtdnlhdilpdeecaaGreatDoor
namespace Go.Proofs.YtdnlhdilpdeecaaGreatDoor
open Go.RowKit
set_option linter.unusedVariables false
set_option linter.unusedSimpArgs false
section
variable {P : Program} {ops : Array Oper} {Q : Act → World → Prop} {md : Region.Mode} {E : Nat → World → World → Prop}
theorem wpAnyE_firstT {S : Nat → Bool} {F : World → World → Prop} (htr : ∀ x y z, F x y → F y z → F x z) (hrf : ∀ x, F x x) {i : Nat} (hEr : ∀ x, E i x x)
  (hEF : ∀ j oj, ops[j]? = some oj → S j = false → ∀ w w', E j w w' → F w w') (hcl : ∀ k, S k = true → k ≠ i → ∃ ok, ops[k]? = some ok ∧ ∃ e ∈ ok.after, Region.binds md e = true ∧ S e.on = true)
  {oi : Oper} {v : Value} (hi : ops[i]? = some oi) (hsel : ∀ (j : Nat) (o : Oper) cs b, ops[j]? = some o → o.op ≠ .select cs b) :
  ∀ (fuel : Nat) (listed : Array Bool) (a : Act) (w : World), (∀ k, S k = true → listed.getD k true = false) →
   (∀ j oj, ops[j]? = some oj → j ≠ i → listed.getD j true = false → (∀ e ∈ oj.after, Region.binds md e = true → e.on ≠ i) → oi.apart ops oj = true) →
   i ∈ Region.ready md ops listed → YieldsE P ops F oi v a w →
   wpAnyE P md ops Q E fuel (listed.setIfInBounds i true) (a.put oi.dst v) w → wpAnyE P md ops Q E (fuel + 1) listed a w := by
 intro fuel
 induction fuel with
 | zero =>
  intro listed a w _ _ hr hy H
  refine ⟨fun h => (by rw [h] at hr; cases hr), fun j hj => ?_⟩
  by_cases hji : j = i
  ·subst hji; exact YieldsIf.wpOp hi hy.iff (hrf w) ⟨hEr w, H⟩
  ·have := ready_mono hj hji
   rw [H.1] at this
   cases this
 | succ fuel ih =>
  intro listed a w hS hfree hr hy H
  refine ⟨fun h => (by rw [h] at hr; cases hr), fun j hj => ?_⟩
  by_cases hji : j = i
  ·subst hji; exact YieldsIf.wpOp hi hy.iff (hrf w) ⟨hEr w, H⟩
  ·have h1 := H.2 j (ready_mono hj hji)
   obtain ⟨hjun, oj, hoj, hall⟩ := mem_ready.1 hj
   have hnot : ∀ e ∈ oj.after, Region.binds md e = true → e.on ≠ i := fun e he hb heq => by
    have h1 := hall e he hb
    have h0 := (mem_ready.1 hr).1
    rw [heq] at h1
    rcases Nat.lt_or_ge i listed.size with h' | h'
    ·simp [h'] at h0 h1; rw [h0] at h1; cases h1
    ·simp [Array.getElem?_eq_none h'] at h1
   have hjS : S j = false := by
    cases hc : S j with
    | false => rfl
    | true =>
     obtain ⟨ok, k1, e, he, hb, k2⟩ := hcl j hc hji
     obtain rfl : oj = ok := Option.some.inj (hoj.symm.trans k1)
     have h1 := hall e he hb
     have h0 := hS e.on k2
     rcases Nat.lt_or_ge e.on listed.size with h' | h'
     ·simp [h'] at h0 h1; rw [h0] at h1; cases h1
     ·simp [Array.getElem?_eq_none h'] at h1
   have h2 := wpOp_putIf (S := F w) hoj (hfree j oj hoj hji hjun hnot) (fun cs b => hsel i oi cs b hi) (fun cs b => hsel j oj cs b hoj) (fun c a w h => h.elim) hy.iff h1
   have hfree' : ∀ k ok, ops[k]? = some ok → k ≠ i → (listed.setIfInBounds j true).getD k true = false →
     (∀ e ∈ ok.after, Region.binds md e = true → e.on ≠ i) → oi.apart ops ok = true := fun k ok hk hki hun hno => by
    refine hfree k ok hk hki ?_ hno
    by_cases hjk : j = k
    ·subst hjk; exact hjun
    ·rw [Go.getD_set_ne true hjk] at hun; exact hun
   have hS' : ∀ k, S k = true → (listed.setIfInBounds j true).getD k true = false := fun k hk => by
    have hjk : j ≠ k := fun e => by rw [e, hk] at hjS; cases hjS
    rw [Go.getD_set_ne true hjk]; exact hS k hk
   refine wpOp_mono (fun a' w' h3 => ⟨h3.2.1, ih (listed.setIfInBounds j true) a' w' hS' hfree' (ready_mono hr (Ne.symm hji)) ?_ ?_⟩) h2
   ·rcases h3.1 with ⟨k1, k2⟩ | k
    ·exact .inl ⟨k1, fun w'' hw'' => k2 w'' (htr _ _ _ (hEF j oj hoj hjS _ _ h3.2.1) hw'')⟩
    ·exact .inr k
   rw [Array.setIfInBounds_comm _ _ hji]
   exact h3.2.2
end
section
variable {P : Program} {B : Bs} {V : Nat → Nat → Prop} {ops : Array Oper} {s : St'} {Q : Exit → St' → Prop} {n : Nat} {L : Array Bool}
def WS (V : Nat → Nat → Prop) (S : List Nat) : Nat → Prop := fun b => ∃ j, S.contains j = false ∧ V j b
def hangB (ops : Array Oper) (S : List Nat) (i : Nat) : Bool := S.all fun k => k == i || match ops[k]? with
 | some o => o.after.any fun e => Region.binds .any e && S.contains e.on
 | none => false
theorem VA.takeT (S : List Nat) {i : Nat} {o : Oper} {x : AV} (hS : hangB ops S i = true) (hL : (S.all fun k => !(L.getD k true)) = true) (hi : ops[i]? = some o) (hs : Region.noSelect ops = true) (hf : Region.free .any ops L i = true) (hr : (Region.ready .any ops L).contains i = true) (hg : o.guard = none) (hd : okd B.nt o.dst = true)
  (hv : OpV P B (WS V S) s o x) (h : VA P B V ops Q n (L.setIfInBounds i true) (s.put o.dst x)) : VA P B V ops Q (n + 1) L s := fun a w hR => by
 obtain ⟨v, h1, h2⟩ := hv a w hR
 refine wpAnyE_firstT (S := fun k => S.contains k) (F := Ew B (WS V S)) Ew.tr Ew.rf (fun x => Ew.rf x) (fun j oj hj hjS w w' h => h.mono fun b _ hb => hb.imp id fun hv => ⟨j, hjS, hv⟩) (fun k hk hki => ?_) hi (Region.noSelect_spec hs) n L a w (fun k hk => ?_) (Region.free_spec hi hf) (by simpa using hr) (.inl ⟨by simp [Region.wanted, hg], h1⟩) (h _ _ (hR.put _ hd _ _ h2))
 ·have hk' : k ∈ S := by simpa using hk
  have := List.all_eq_true.1 hS k hk'
  simp only [Bool.or_eq_true, beq_iff_eq] at this
  have := this.resolve_left hki
  cases ho : ops[k]? with
  | none => rw [ho] at this; cases this
  | some ok =>
   rw [ho] at this
   obtain ⟨e, he, h3⟩ := Array.any_eq_true'.1 this
   simp only [Bool.and_eq_true] at h3
   exact ⟨ok, rfl, e, he, h3.1, h3.2⟩
 ·have hk' : k ∈ S := by simpa using hk
  have := List.all_eq_true.1 hL k hk'
  simpa using this
end
end Go.Proofs.YtdnlhdilpdeecaaGreatDoor
namespace Go.Proofs.YtdnlhdilpdeecaaGreatDoor
open Go.RowKit
set_option linter.unusedVariables false
set_option linter.unusedSimpArgs false
theorem decB_size : ∀ i, i < 100 → (decB i).size ≤ 3 := by decide +kernel



end Go.Proofs.YtdnlhdilpdeecaaGreatDoor
namespace Go.Proofs.YtdnlhdilpdeecaaGreatDoor
open Go.RowKit
set_option linter.unusedVariables false
set_option linter.unusedSimpArgs false
abbrev avNd (x : NeedS) : AV := .agg (tab 2 (Sxc.cell x))



end Go.Proofs.YtdnlhdilpdeecaaGreatDoor
namespace Go.Proofs.YtdnlhdilpdeecaaGreatDoor
open Go.RowKit
set_option linter.unusedVariables false
set_option linter.unusedSimpArgs false
set_option maxRecDepth 100000 in
set_option maxHeartbeats 2000000 in
theorem insSort_rw {l0 : List NeedS} {u : Value} {ty : TypeId} {F : FuncId} {cs : List AV} {c : NeedS → NeedS → Int} (hl : l0.length ≤ 1000000) (hcall : ∀ us w, (callFunc F us).run Tryz.prog w = .ok (.enter F us) w) (hF : ∀ x y, Spec Tryz.prog F ([avNd x, avNd y] ++ cs) (fun z => z = avI (c x y))) (ht : ∀ {a b d : NeedS}, decide (c a b < 0) = true → decide (c b d < 0) = true → decide (c a d < 0) = true) (ha : ∀ {a b : NeedS}, decide (c a b < 0) = true → decide (c b a < 0) = false) (hn : ∀ {a b d : NeedS}, decide (c b a < 0) = false → decide (c d b < 0) = false → decide (c d a < 0) = false) :
  SpecH Tryz.prog 273 [.v u, avI 0, avI l0.length, .fn F cs] [.row u l0.length 2 (rowL l0) ty] (fun y hp' => ∃ l, (l.Perm l0 ∧ OrdL (fun x y => decide (c x y < 0)) l) ∧ y = .tup [] ∧ hp' = [.row u l0.length 2 (rowL l) ty]) := by
 refine SpecH.of_VC Tryz.func273 rfl Tryz.ntmps273 (Nle rfl) fun w A hB => ?_
 have hnew : True := trivial
 refine VC.sr ?_
 refine VO.mv rfl rfl rfl rfl ?_
 refine VO.val rfl rfl (OpV.add rfl rfl rfl (by unfold fits; omega)) ?_
 refine VO.ma rfl rfl rfl rfl ?_
 refine VO.nil ?_
 refine VC.block ?_
 refine VC.loopK [(0, _), (1, _), (2, _), (3, _)] ⟨rfl, rfl, rfl, rfl, trivial⟩ ({z : Nat × List NeedS // InvO (fun x y => decide (c x y < 0)) l0 z.1 z.2 ∧ 0 < z.1 ∧ z.1 ≤ max 1 l0.length}) (fun (iZ : {z : Nat × List NeedS // InvO (fun x y => decide (c x y < 0)) l0 z.1 z.2 ∧ 0 < z.1 ∧ z.1 ≤ max 1 l0.length}) => match iZ with | ⟨⟨i, l⟩, hi, hi0, hin⟩ => [(8, avI (i : Int))]) (fun (iZ : {z : Nat × List NeedS // InvO (fun x y => decide (c x y < 0)) l0 z.1 z.2 ∧ 0 < z.1 ∧ z.1 ≤ max 1 l0.length}) => match iZ with | ⟨⟨i, l⟩, hi, hi0, hin⟩ => [.row u l0.length 2 (rowL l) ty]) (fun (iZ : {z : Nat × List NeedS // InvO (fun x y => decide (c x y < 0)) l0 z.1 z.2 ∧ 0 < z.1 ∧ z.1 ≤ max 1 l0.length}) => match iZ with | ⟨⟨i, l⟩, hi, hi0, hin⟩ => 0) (fun (iZ : {z : Nat × List NeedS // InvO (fun x y => decide (c x y < 0)) l0 z.1 z.2 ∧ 0 < z.1 ∧ z.1 ≤ max 1 l0.length}) => match iZ with | ⟨⟨i, l⟩, hi, hi0, hin⟩ => l0.length - i) ⟨(1, l0), InvO.one l0, Nat.one_pos, by show 1 ≤ _; omega⟩ (Le.mk hB [0] ⟨rfl, rfl, rfl, rfl, rfl, trivial⟩ rfl rfl (Nat.le_refl _)) ?_
 rintro ⟨⟨i, l⟩, hi, hi0, hin⟩
 show VC _ _ _ _ ⟨[(8, avI (i : Int))] ++ [(0, _), (1, _), (2, _), (3, _)], [.row u l0.length 2 (rowL l) ty], 0⟩
 simp only at hi hi0 hin
 have hll := hi.len
 refine VC.seq ?_
 refine VC.sr ?_
 refine VO.mv rfl rfl rfl rfl ?_
 refine VO.mv rfl rfl rfl rfl ?_
 refine VO.val rfl rfl (OpV.lss rfl rfl rfl) ?_
 refine VO.nil ?_
 refine VC.cond rfl (fun aH1b => ?_) (fun aH1b => ?_)
 ·have aH1 := aH1b
  try simp only [qqT, qqF, qqN, qqM, qqL, qqE] at aH1
  refine VC.skip ?_
  refine VC.seq ?_
  refine VC.block ?_
  refine VC.sr ?_
  refine VO.mv rfl rfl rfl rfl ?_
  refine VO.ma rfl rfl rfl rfl ?_
  refine VO.nil ?_
  refine VC.block ?_
  refine VC.asBox (i := 0) rfl (by omega) (fun g cap hu hcap hmx => ?_)
  subst hu
  refine VC.loopK [(0, _), (1, _), (2, _), (3, _), (8, _)] ⟨rfl, rfl, rfl, rfl, rfl, trivial⟩ ({z : Nat × List NeedS // InvI (fun x y => decide (c x y < 0)) l0 i z.1 z.2}) (fun (iZ : {z : Nat × List NeedS // InvI (fun x y => decide (c x y < 0)) l0 i z.1 z.2}) => match iZ with | ⟨⟨j, l2⟩, hI⟩ => [(9, avI (j : Int))]) (fun (iZ : {z : Nat × List NeedS // InvI (fun x y => decide (c x y < 0)) l0 i z.1 z.2}) => match iZ with | ⟨⟨j, l2⟩, hI⟩ => [.box g ⟨rowL l2, ty, cap * 2⟩]) (fun (iZ : {z : Nat × List NeedS // InvI (fun x y => decide (c x y < 0)) l0 i z.1 z.2}) => match iZ with | ⟨⟨j, l2⟩, hI⟩ => 0) (fun (iZ : {z : Nat × List NeedS // InvI (fun x y => decide (c x y < 0)) l0 i z.1 z.2}) => match iZ with | ⟨⟨j, l2⟩, hI⟩ => j) ⟨(i, l), hi.start (by omega)⟩ (Le.mk hB [0] ⟨rfl, rfl, rfl, rfl, rfl, rfl, trivial⟩ rfl rfl (Nat.le_refl _)) ?_
  rintro ⟨⟨j, l2⟩, hI⟩
  show VC _ _ _ _ ⟨[(9, avI (j : Int))] ++ [(0, _), (1, _), (2, _), (3, _), (8, _)], [.box g ⟨rowL l2, ty, cap * 2⟩], 0⟩
  simp only at hI
  obtain ⟨hlen2, hil, hji⟩ := hI.len
  refine VC.seq ?_
  refine VC.seq ?_
  refine VC.draw (fun _ => NoB) hB (by kernel_rfl) ?_
  refine VA.take (i := 0) rfl (by kernel_rfl) (by kernel_rfl) (by kernel_rfl) rfl rfl (OpV.move (.inl rfl) rfl) ?_
  refine VA.take (i := 1) rfl (by kernel_rfl) (by kernel_rfl) (by kernel_rfl) rfl rfl (OpV.move (.inl rfl) rfl) ?_
  refine VA.take (i := 2) rfl (by kernel_rfl) (by kernel_rfl) (by kernel_rfl) rfl rfl (OpV.gtr rfl rfl rfl) ?_
  refine VA.take (i := 3) rfl (by kernel_rfl) (by kernel_rfl) (by kernel_rfl) rfl rfl (OpV.move (.inl rfl) rfl) ?_
  refine VA.split (t := 21) rfl (fun aK2b => ?_) (fun aK2b => ?_)
  ·have aK2 := aK2b
   try simp only [qqT, qqF, qqN, qqM, qqL, qqE] at aK2
   refine VA.takeY (i := 4) rfl (by kernel_rfl) (by kernel_rfl) (by kernel_rfl) rfl rfl rfl rfl aK2b (OpV.move (.inl rfl) rfl) ?_
   refine VA.takeY (i := 5) rfl (by kernel_rfl) (by kernel_rfl) (by kernel_rfl) rfl rfl rfl rfl aK2b (OpV.move (.inl rfl) rfl) ?_
   refine VA.takeY (i := 6) rfl (by kernel_rfl) (by kernel_rfl) (by kernel_rfl) rfl rfl rfl rfl aK2b (OpV.move (.inl rfl) rfl) ?_
   refine VA.takeY (i := 7) rfl (by kernel_rfl) (by kernel_rfl) (by kernel_rfl) rfl rfl rfl rfl aK2b (OpV.indexAddr_q rfl Tryz.underlying164 Tryz.sizeOf166 rfl rfl rfl (by omega)) ?_
   refine VA.takeY (i := 8) rfl (by kernel_rfl) (by kernel_rfl) (by kernel_rfl) rfl rfl rfl rfl aK2b (OpV.loadK_own (i := 0) rfl hB Tryz.isAgg166 Tryz.sizeOf166 rfl rfl (rowL_cut rfl (by omega)) Wi.not0) ?_
   refine VA.takeY (i := 9) rfl (by kernel_rfl) (by kernel_rfl) (by kernel_rfl) rfl rfl rfl rfl aK2b (OpV.move (.inl rfl) rfl) ?_
   refine VA.takeY (i := 10) rfl (by kernel_rfl) (by kernel_rfl) (by kernel_rfl) rfl rfl rfl rfl aK2b (OpV.move (.inl rfl) rfl) ?_
   refine VA.takeY (i := 11) rfl (by kernel_rfl) (by kernel_rfl) (by kernel_rfl) rfl rfl rfl rfl aK2b (OpV.sub rfl rfl rfl (by unfold fits; omega)) ?_
   refine VA.takeY (i := 12) rfl (by kernel_rfl) (by kernel_rfl) (by kernel_rfl) rfl rfl rfl rfl aK2b (OpV.indexAddr_q rfl Tryz.underlying164 Tryz.sizeOf166 rfl rfl (show (j : Int) - 1 = ((j - 1 : Nat) : Int) by omega) (by omega)) ?_
   refine VA.takeY (i := 13) rfl (by kernel_rfl) (by kernel_rfl) (by kernel_rfl) rfl rfl rfl rfl aK2b (OpV.loadK_own (i := 0) rfl hB Tryz.isAgg166 Tryz.sizeOf166 rfl rfl (rowL_cut rfl (by omega)) Wi.not0) ?_
   refine VA.all (rs := [14]) (by kernel_rfl) (by decide) ?_
   refine ⟨⟨_, rfl, .inr ⟨_, _, _, rfl, rfl, (look_k rfl aK2b)⟩, ?_⟩, trivial⟩
   refine OpE.callF rfl hB rfl hcall rfl rfl (hF _ _) ?_
   rintro _ rfl
   refine VA.takeY (i := 15) rfl (by kernel_rfl) (by kernel_rfl) (by kernel_rfl) rfl rfl rfl rfl aK2b (OpV.lss rfl rfl rfl) ?_
   refine VA.take (i := 16) rfl (by kernel_rfl) (by kernel_rfl) (by kernel_rfl) rfl rfl (OpV.pickT rfl rfl rfl rfl aK2b) ?_
   refine VA.done (by kernel_rfl) ?_
   refine VC.cond rfl (fun hcb => ?_) (fun hcb => ?_)
   ·have hc := hcb
    try simp only [qqT, qqF, qqN, qqM, qqL, qqE] at hc
    refine VC.skip ?_
    refine VC.seq ?_
    refine VC.block ?_
    refine VC.draw (fun j b => j ∈ [15, 17] ∧ b = g) hB (by kernel_rfl) ?_
    refine VA.take (i := 0) rfl (by kernel_rfl) (by kernel_rfl) (by kernel_rfl) rfl rfl (OpV.move (.inl rfl) rfl) ?_
    refine VA.take (i := 1) rfl (by kernel_rfl) (by kernel_rfl) (by kernel_rfl) rfl rfl (OpV.move (.inl rfl) rfl) ?_
    refine VA.take (i := 2) rfl (by kernel_rfl) (by kernel_rfl) (by kernel_rfl) rfl rfl (OpV.move (.inl rfl) rfl) ?_
    refine VA.take (i := 3) rfl (by kernel_rfl) (by kernel_rfl) (by kernel_rfl) rfl rfl (OpV.move (.inl rfl) rfl) ?_
    refine VA.take (i := 4) rfl (by kernel_rfl) (by kernel_rfl) (by kernel_rfl) rfl rfl (OpV.sub rfl rfl rfl (by unfold fits; omega)) ?_
    refine VA.take (i := 5) rfl (by kernel_rfl) (by kernel_rfl) (by kernel_rfl) rfl rfl (OpV.move (.inl rfl) rfl) ?_
    refine VA.take (i := 6) rfl (by kernel_rfl) (by kernel_rfl) (by kernel_rfl) rfl rfl (OpV.move (.inl rfl) rfl) ?_
    refine VA.take (i := 7) rfl (by kernel_rfl) (by kernel_rfl) (by kernel_rfl) rfl rfl (OpV.sub rfl rfl rfl (by unfold fits; omega)) ?_
    refine VA.take (i := 8) rfl (by kernel_rfl) (by kernel_rfl) (by kernel_rfl) rfl rfl (OpV.indexAddr_q rfl Tryz.underlying164 Tryz.sizeOf166 rfl rfl (show (j : Int) - 1 = ((j - 1 : Nat) : Int) by omega) (by omega)) ?_
    refine VA.take (i := 9) rfl (by kernel_rfl) (by kernel_rfl) (by kernel_rfl) rfl rfl (OpV.loadK_own (i := 0) rfl hB Tryz.isAgg166 Tryz.sizeOf166 rfl rfl (rowL_cut rfl (by omega)) (Wi.notD (by kernel_rfl))) ?_
    refine VA.take (i := 10) rfl (by kernel_rfl) (by kernel_rfl) (by kernel_rfl) rfl rfl (OpV.move (.inl rfl) rfl) ?_
    refine VA.take (i := 11) rfl (by kernel_rfl) (by kernel_rfl) (by kernel_rfl) rfl rfl (OpV.move (.inl rfl) rfl) ?_
    refine VA.take (i := 12) rfl (by kernel_rfl) (by kernel_rfl) (by kernel_rfl) rfl rfl (OpV.indexAddr_q rfl Tryz.underlying164 Tryz.sizeOf166 rfl rfl rfl (by omega)) ?_
    refine VA.take (i := 13) rfl (by kernel_rfl) (by kernel_rfl) (by kernel_rfl) rfl rfl (OpV.loadK_own (i := 0) rfl hB Tryz.isAgg166 Tryz.sizeOf166 rfl rfl (rowL_cut rfl (by omega)) (Wi.notD (by kernel_rfl))) ?_
    refine VA.take (i := 14) rfl (by kernel_rfl) (by kernel_rfl) (by kernel_rfl) rfl rfl (OpV.indexAddr_q rfl Tryz.underlying164 Tryz.sizeOf166 rfl rfl rfl (by omega)) ?_
    refine VA.all (rs := [15]) (by kernel_rfl) (by decide) ?_
    refine ⟨⟨_, rfl, .inl rfl, ?_⟩, trivial⟩
    refine OpE.storeE (i := 0) rfl hB rfl Tryz.sizeOf166 rfl rfl rfl rfl rfl rfl (rowL_inE rfl (by omega)) (rowL_setAll (x := l2.getD (j - 1) default) rfl (by omega)) (by first | exact ⟨rfl, rfl⟩ | exact .inl ⟨rfl, rfl⟩ | exact .inr ⟨rfl, rfl⟩ | exact ⟨rfl, trivial⟩ | exact .inl ⟨rfl, trivial⟩ | exact .inr ⟨rfl, trivial⟩ | exact ⟨by decide, rfl⟩) ?_
    refine VA.take (i := 16) rfl (by kernel_rfl) (by kernel_rfl) (by kernel_rfl) rfl rfl (OpV.indexAddr_q rfl Tryz.underlying164 Tryz.sizeOf166 rfl rfl (show (j : Int) - 1 = ((j - 1 : Nat) : Int) by omega) (by omega)) ?_
    refine VA.all (rs := [17]) (by kernel_rfl) (by decide) ?_
    refine ⟨⟨_, rfl, .inl rfl, ?_⟩, trivial⟩
    refine OpE.storeE (i := 0) rfl hB rfl Tryz.sizeOf166 rfl rfl rfl rfl rfl rfl (rowL_inE rfl (by rw [List.length_set]; omega)) (rowL_setAll (x := l2.getD j default) rfl (by rw [List.length_set]; omega)) (by first | exact ⟨rfl, rfl⟩ | exact .inl ⟨rfl, rfl⟩ | exact .inr ⟨rfl, rfl⟩ | exact ⟨rfl, trivial⟩ | exact .inl ⟨rfl, trivial⟩ | exact .inr ⟨rfl, trivial⟩ | exact ⟨by decide, rfl⟩) ?_
    refine VA.done (by kernel_rfl) ?_
    refine VC.region ?_
    refine VO.mv rfl rfl rfl rfl ?_
    refine VO.val rfl rfl (OpV.sub rfl rfl rfl (by unfold fits; omega)) ?_
    refine VO.ma rfl rfl rfl rfl ?_
    refine VO.nil ?_
    exact Exists.intro (⟨(j - 1, (l2.set j (l2.getD (j - 1) default)).set (j - 1) (l2.getD j default)), hI.next ht (by omega) (decide_eq_true hc)⟩) (And.intro (Le.mk hB [0] ⟨(by rw [show ((j - 1 : Nat) : Int) = (j : Int) - 1 by omega]; rfl), rfl, rfl, rfl, rfl, rfl, trivial⟩ rfl rfl (Nat.le_refl _)) (by first | omega | (show _ < _; omega) | (simp only []; omega)))
   ·have hc := hcb
    try simp only [qqT, qqF, qqN, qqM, qqL, qqE] at hc
    have hex : j = 0 ∨ decide (c (l2.getD j default) (l2.getD (j - 1) default) < 0) = false := by first | exact .inl (by omega) | exact .inr (decide_eq_false (by omega))
    refine VC.le _ (Le.boxRow (i := 0) (n := l0.length) rfl (by rw [rowL_len, hlen2]; rfl) hcap hmx) ?_
    refine VC.exit ?_
    refine VC.region ?_
    refine VO.mv rfl rfl rfl rfl ?_
    refine VO.val rfl rfl (OpV.add rfl rfl rfl (by unfold fits; omega)) ?_
    refine VO.ma rfl rfl rfl rfl ?_
    refine VO.nil ?_
    exact Exists.intro (⟨(i + 1, l2), hI.done ha hn hex, Nat.succ_pos _, by show i + 1 ≤ _; omega⟩) (And.intro (Le.mk hB [0] ⟨rfl, rfl, rfl, rfl, rfl, trivial⟩ rfl (by first | rfl | assumption) (Nat.le_refl _)) (by first | omega | (show _ < _; omega) | (simp only []; omega)))
  ·have aK2 := aK2b
   try simp only [qqT, qqF, qqN, qqM, qqL, qqE] at aK2
   refine VA.takeX (i := 4) rfl (by kernel_rfl) (by kernel_rfl) (by kernel_rfl) rfl rfl rfl rfl aK2b ?_
   refine VA.takeX (i := 5) rfl (by kernel_rfl) (by kernel_rfl) (by kernel_rfl) rfl rfl rfl rfl aK2b ?_
   refine VA.takeX (i := 6) rfl (by kernel_rfl) (by kernel_rfl) (by kernel_rfl) rfl rfl rfl rfl aK2b ?_
   refine VA.takeX (i := 7) rfl (by kernel_rfl) (by kernel_rfl) (by kernel_rfl) rfl rfl rfl rfl aK2b ?_
   refine VA.takeX (i := 8) rfl (by kernel_rfl) (by kernel_rfl) (by kernel_rfl) rfl rfl rfl rfl aK2b ?_
   refine VA.takeX (i := 9) rfl (by kernel_rfl) (by kernel_rfl) (by kernel_rfl) rfl rfl rfl rfl aK2b ?_
   refine VA.takeX (i := 10) rfl (by kernel_rfl) (by kernel_rfl) (by kernel_rfl) rfl rfl rfl rfl aK2b ?_
   refine VA.takeX (i := 11) rfl (by kernel_rfl) (by kernel_rfl) (by kernel_rfl) rfl rfl rfl rfl aK2b ?_
   refine VA.takeX (i := 12) rfl (by kernel_rfl) (by kernel_rfl) (by kernel_rfl) rfl rfl rfl rfl aK2b ?_
   refine VA.takeX (i := 13) rfl (by kernel_rfl) (by kernel_rfl) (by kernel_rfl) rfl rfl rfl rfl aK2b ?_
   refine VA.takeX (i := 14) rfl (by kernel_rfl) (by kernel_rfl) (by kernel_rfl) rfl rfl rfl rfl aK2b ?_
   refine VA.takeX (i := 15) rfl (by kernel_rfl) (by kernel_rfl) (by kernel_rfl) rfl rfl rfl rfl aK2b ?_
   refine VA.take (i := 16) rfl (by kernel_rfl) (by kernel_rfl) (by kernel_rfl) rfl rfl (OpV.pickF rfl rfl rfl rfl aK2b) ?_
   refine VA.done (by kernel_rfl) ?_
   refine VC.condF rfl rfl ?_
   have hex : j = 0 ∨ decide (c (l2.getD j default) (l2.getD (j - 1) default) < 0) = false := by first | exact .inl (by omega) | exact .inr (decide_eq_false (by omega))
   refine VC.le _ (Le.boxRow (i := 0) (n := l0.length) rfl (by rw [rowL_len, hlen2]; rfl) hcap hmx) ?_
   refine VC.exit ?_
   refine VC.region ?_
   refine VO.mv rfl rfl rfl rfl ?_
   refine VO.val rfl rfl (OpV.add rfl rfl rfl (by unfold fits; omega)) ?_
   refine VO.ma rfl rfl rfl rfl ?_
   refine VO.nil ?_
   exact Exists.intro (⟨(i + 1, l2), hI.done ha hn hex, Nat.succ_pos _, by show i + 1 ≤ _; omega⟩) (And.intro (Le.mk hB [0] ⟨rfl, rfl, rfl, rfl, rfl, trivial⟩ rfl (by first | rfl | assumption) (Nat.le_refl _)) (by first | omega | (show _ < _; omega) | (simp only []; omega)))
 ·have aH1 := aH1b
  try simp only [qqT, qqF, qqN, qqM, qqL, qqE] at aH1
  refine VC.exit ?_
  exact Exists.intro _ (And.intro (RetV.none Tryz.results273) (⟨l, hi.all (by omega), rfl, rfl⟩))
set_option maxRecDepth 100000 in
theorem pdqSort_rw {l0 : List NeedS} {u : Value} {ty : TypeId} {F : FuncId} {cs : List AV} {c : NeedS → NeedS → Int} {k : Int} (hl : l0.length ≤ 12) (hcall : ∀ us w, (callFunc F us).run Tryz.prog w = .ok (.enter F us) w) (hF : ∀ x y, Spec Tryz.prog F ([avNd x, avNd y] ++ cs) (fun z => z = avI (c x y))) (ht : ∀ {a b d : NeedS}, decide (c a b < 0) = true → decide (c b d < 0) = true → decide (c a d < 0) = true) (ha : ∀ {a b : NeedS}, decide (c a b < 0) = true → decide (c b a < 0) = false) (hn : ∀ {a b d : NeedS}, decide (c b a < 0) = false → decide (c d b < 0) = false → decide (c d a < 0) = false) :
  SpecH Tryz.prog 204 [.v u, avI 0, avI l0.length, avI k, .fn F cs] [.row u l0.length 2 (rowL l0) ty] (fun y hp' => ∃ l, (l.Perm l0 ∧ OrdL (fun x y => decide (c x y < 0)) l) ∧ y = .tup [] ∧ hp' = [.row u l0.length 2 (rowL l) ty]) := by
 refine SpecH.of_VC Tryz.func204 rfl Tryz.ntmps204 (Nle rfl) fun w A hB => ?_
 have hnew : True := trivial
 refine VC.sr ?_
 refine VO.ma rfl rfl rfl rfl ?_
 refine VO.nil ?_
 refine VC.sr ?_
 refine VO.ma rfl rfl rfl rfl ?_
 refine VO.nil ?_
 refine VC.block ?_
 refine VC.loopK [(0, _), (4, _)] ⟨rfl, rfl, trivial⟩ ({z : Nat // z = 0}) (fun (iZ : {z : Nat // z = 0}) => match iZ with | ⟨z, hz⟩ => [(1, avI 0), (2, avI l0.length), (3, avI k), (10, avB true), (11, avB true)]) (fun (iZ : {z : Nat // z = 0}) => match iZ with | ⟨z, hz⟩ => [.row u l0.length 2 (rowL l0) ty]) (fun (iZ : {z : Nat // z = 0}) => match iZ with | ⟨z, hz⟩ => 0) (fun (iZ : {z : Nat // z = 0}) => match iZ with | ⟨z, hz⟩ => z) ⟨0, rfl⟩ (Le.mk hB [0] ⟨rfl, rfl, rfl, rfl, rfl, rfl, rfl, trivial⟩ rfl rfl (Nat.le_refl _)) ?_
 rintro ⟨z, hz⟩
 show VC _ _ _ _ ⟨[(1, avI 0), (2, avI l0.length), (3, avI k), (10, avB true), (11, avB true)] ++ [(0, _), (4, _)], [.row u l0.length 2 (rowL l0) ty], 0⟩
 refine VC.block ?_
 refine VC.sr ?_
 refine VO.mv rfl rfl rfl rfl ?_
 refine VO.mv rfl rfl rfl rfl ?_
 refine VO.val rfl rfl (OpV.sub rfl rfl rfl (by unfold fits; omega)) ?_
 refine VO.ma rfl rfl rfl rfl ?_
 refine VO.nil ?_
 refine VC.seq ?_
 refine VC.sr ?_
 refine VO.mv rfl rfl rfl rfl ?_
 refine VO.val rfl rfl (OpV.leq rfl rfl rfl) ?_
 refine VO.nil ?_
 refine VC.cond rfl (fun aH1b => ?_) (fun aH1b => ?_)
 ·have aH1 := aH1b
  try simp only [qqT, qqF, qqN, qqM, qqL, qqE] at aH1
  refine VC.sr ?_
  refine VO.mv rfl rfl rfl rfl ?_
  refine VO.mv rfl rfl rfl rfl ?_
  refine VO.mv rfl rfl rfl rfl ?_
  refine VO.mv rfl rfl rfl rfl ?_
  refine VO.op rfl (OpE.callH0 rfl hB rfl Tryz.call273 rfl rfl (insSort_rw (by omega) hcall hF ht ha hn) (List.Perm.refl _) (fun _ _ => trivial) ?_)
  rintro _ _ ⟨l, hpl, rfl, rfl⟩
  refine VO.nil ?_
  refine VC.ret ?_
  exact Exists.intro _ (And.intro (RetV.none Tryz.results204) (⟨l, hpl, rfl, rfl⟩))
 ·have aH1 := aH1b
  try simp only [qqT, qqF, qqN, qqM, qqL, qqE] at aH1
  exact VC.absurd (by omega)
set_option maxRecDepth 100000 in
theorem sortFunc_rw {l0 : List NeedS} {u : Value} {ty : TypeId} {F : FuncId} {cs : List AV} {c : NeedS → NeedS → Int} (hl : l0.length ≤ 12) (hcall : ∀ us w, (callFunc F us).run Tryz.prog w = .ok (.enter F us) w) (hF : ∀ x y, Spec Tryz.prog F ([avNd x, avNd y] ++ cs) (fun z => z = avI (c x y))) (ht : ∀ {a b d : NeedS}, decide (c a b < 0) = true → decide (c b d < 0) = true → decide (c a d < 0) = true) (ha : ∀ {a b : NeedS}, decide (c a b < 0) = true → decide (c b a < 0) = false) (hn : ∀ {a b d : NeedS}, decide (c b a < 0) = false → decide (c d b < 0) = false → decide (c d a < 0) = false) :
  SpecH Tryz.prog 127 [.v u, .fn F cs] [.row u l0.length 2 (rowL l0) ty] (fun y hp' => ∃ l, (l.Perm l0 ∧ OrdL (fun x y => decide (c x y < 0)) l) ∧ y = .tup [] ∧ hp' = [.row u l0.length 2 (rowL l) ty]) := by
 refine SpecH.of_VC Tryz.func127 rfl Tryz.ntmps127 (Nle rfl) fun w A hB => ?_
 have hnew : True := trivial
 refine VC.sr ?_
 refine VO.mv rfl rfl rfl rfl ?_
 refine VO.val rfl rfl (OpV.len_row (i := 0) rfl Tryz.underlying164 rfl rfl) ?_
 refine VO.ma rfl rfl rfl rfl ?_
 refine VO.nil ?_
 refine VC.region ?_
 refine VO.mv rfl rfl rfl rfl ?_
 refine VO.mv rfl rfl rfl rfl ?_
 refine VO.mv rfl rfl rfl rfl ?_
 refine VO.val rfl rfl (OpV.conv rfl Tryz.underlying3 Tryz.underlying121 rfl (IntWalk.u64_in _ (by omega))) ?_
 refine VO.op rfl (OpE.call rfl hB rfl Tryz.call191 rfl (SpecN.spec (bits_Len_S (x := (l0.length : Int)) (by omega) (by omega))) ?_)
 rintro _ ⟨k, rfl⟩
 refine VO.mv rfl rfl rfl rfl ?_
 refine VO.op rfl (OpE.callH0 rfl hB rfl Tryz.call204 rfl rfl (pdqSort_rw hl hcall hF ht ha hn) (List.Perm.refl _) (fun _ _ => trivial) ?_)
 rintro _ _ ⟨l, hpl, rfl, rfl⟩
 refine VO.nil ?_
 exact Exists.intro _ (And.intro (RetV.none Tryz.results127) (⟨l, hpl, rfl, rfl⟩))
end Go.Proofs.YtdnlhdilpdeecaaGreatDoor
namespace Go.Proofs.YtdnlhdilpdeecaaGreatDoor
open Go.RowKit
set_option linter.unusedVariables false
set_option linter.unusedSimpArgs false
abbrev RwM := List (ByteArray × Int)
def rwNow (n : RwM) (x : LookS) : RwM := mput n x.name (if x.bad = true then mgetD n x.name 0 + 1 else 0)
def rwMost (n m : RwM) (x : LookS) : RwM := if x.bad = true then mput m x.name (max (mgetD m x.name 0) (mgetD n x.name 0 + 1)) else m
def rwS (l : List LookS) : RwM × RwM := l.foldl (fun s x => (rwNow s.1 x, rwMost s.1 s.2 x)) ([], [])
theorem rwS_take {l : List LookS} {q : Nat} (h : q < l.length) : rwS (l.take (q + 1)) = (rwNow (rwS (l.take q)).1 (l.getD q default), rwMost (rwS (l.take q)).1 (rwS (l.take q)).2 (l.getD q default)) := by
 have : l.take (q + 1) = l.take q ++ [l.getD q default] := by
  rw [List.take_succ_eq_append_getElem h]; simp [List.getD_eq_getElem?_getD, h]
 rw [this]; unfold rwS; rw [List.foldl_append]; rfl
theorem mgetD_nil {k : ByteArray} : mgetD ([] : RwM) k 0 = 0 := rfl
theorem rwS_bd {l : List LookS} : ∀ q, q ≤ l.length → ∀ k, (0 ≤ mgetD (rwS (l.take q)).1 k 0 ∧ mgetD (rwS (l.take q)).1 k 0 ≤ q) ∧ (0 ≤ mgetD (rwS (l.take q)).2 k 0 ∧ mgetD (rwS (l.take q)).2 k 0 ≤ q)
 | 0, _, k => by
  rw [List.take_zero]
  have : rwS [] = ([], []) := rfl
  rw [this]
  simp only [mgetD_nil]
  omega
 | q + 1, h, k => by
  have ih := rwS_bd (l := l) q (by omega)
  have hk := ih k
  have hx := ih (l.getD q default).name
  rw [rwS_take (by omega)]
  simp only
  constructor
  ·unfold rwNow
   rw [mgetD_mput]
   split
   ·split <;> omega
   ·omega
  ·unfold rwMost
   split
   ·rw [mgetD_mput]
    split
    ·omega
    ·omega
   ·omega
theorem rwS_nd : ∀ (l : List LookS) (s : RwM × RwM), (s.1.map (·.1)).Nodup → (s.2.map (·.1)).Nodup → ((l.foldl (fun s x => (rwNow s.1 x, rwMost s.1 s.2 x)) s).2.map (·.1)).Nodup
 | [], s, _, h => h
 | x :: l, s, h1, h2 => rwS_nd l _ (mput_nodup h1 _ _) (by
   show ((rwMost s.1 s.2 x).map (·.1)).Nodup
   unfold rwMost
   split
   ·exact mput_nodup h2 _ _
   ·exact h2)
theorem rwS_nodup (l : List LookS) : ((rwS l).2.map (·.1)).Nodup := rwS_nd l ([], []) List.nodup_nil List.nodup_nil
theorem rwS_sub : ∀ (l : List LookS) (s : RwM × RwM) (k : ByteArray), k ∈ (l.foldl (fun s x => (rwNow s.1 x, rwMost s.1 s.2 x)) s).2.map (·.1) → k ∈ s.2.map (·.1) ∨ k ∈ l.map (·.name)
 | [], s, k, h => .inl h
 | x :: l, s, k, h => by
  rcases rwS_sub l _ k h with h | h
  ·have h : k ∈ (rwMost s.1 s.2 x).map (·.1) := h
   unfold rwMost at h
   split at h
   ·rcases mput_mem.1 h with h | h
    ·exact .inl h
    ·exact .inr (by rw [h]; exact List.mem_cons_self ..)
   ·exact .inl h
  ·exact .inr (List.mem_cons_of_mem _ h)
theorem rwS_len {l : List LookS} {N : Nat} (h : (uK (l.map (·.name))).length ≤ N) : (rwS l).2.length ≤ N := by
 have h1 : ((rwS l).2.map (·.1)).length ≤ (uK (l.map (·.name))).length := (rwS_nodup l).length_le_of_subset fun k hk => by
  rw [uK_mem]
  rcases rwS_sub l ([], []) k hk with h | h
  ·cases h
  ·exact h
 rw [List.length_map] at h1; omega
def cRw (x y : NeedS) : Int := errsF [cmpI y.count x.count, cmpB x.key y.key]
abbrev ltRw (x y : NeedS) : Bool := decide (cRw x y < 0)
theorem cRw_lt (x y : NeedS) : cRw x y < 0 ↔ (y.count < x.count ∨ (y.count = x.count ∧ sLt x.key y.key = true)) := by
  have hb := cmpB_lt x.key y.key
  unfold cRw
  by_cases hc : cmpI y.count x.count = 0
  · have e : errsF [cmpI y.count x.count, cmpB x.key y.key] = cmpB x.key y.key := by
      by_cases h2 : cmpB x.key y.key = 0
      · rw [h2]
        exact errsF_none fun j hj => by
          match j, hj with
          | 0, _ => exact hc
          | 1, _ => rfl
      · exact errsF_at (q := 1) (by simp) (fun j hj => by obtain rfl : j = 0 := by omega
                                                          exact hc) h2
    rw [e, ← hb, decide_eq_true_eq]
    unfold cmpI at hc
    constructor
    · intro h; exact .inr ⟨by revert hc; split <;> (try split) <;> omega, h⟩
    · rintro (h | h)
      · exfalso; revert hc; rw [if_pos h]; omega
      · exact h.2
  · have e : errsF [cmpI y.count x.count, cmpB x.key y.key] = cmpI y.count x.count := errsF_at (q := 0) (by simp) (fun j hj => absurd hj (by omega)) hc
    rw [e]
    unfold cmpI at hc ⊢
    constructor
    · intro h; exact .inl (by revert h; split <;> (try split) <;> omega)
    · rintro (h | h)
      · rw [if_pos h]; omega
      · exfalso; apply hc; rw [if_neg (by omega), if_neg (by omega)]
theorem ltRw_iff {x y : NeedS} : ltRw x y = true ↔ (y.count < x.count ∨ (y.count = x.count ∧ sLt x.key y.key = true)) := by rw [decide_eq_true_eq]; exact cRw_lt x y
theorem ltRw_trans {a b d : NeedS} (h1 : ltRw a b = true) (h2 : ltRw b d = true) : ltRw a d = true := by
 rw [ltRw_iff] at *
 rcases h1 with h1 | ⟨h1, k1⟩ <;> rcases h2 with h2 | ⟨h2, k2⟩
 ·exact .inl (by omega)
 ·exact .inl (by omega)
 ·exact .inl (by omega)
 ·exact .inr ⟨by omega, sLt_trans k1 k2⟩
theorem ltRw_as {a b : NeedS} (h : ltRw a b = true) : ltRw b a = false := by
 rw [Bool.eq_false_iff]
 intro h2
 have h3 := ltRw_iff.1 (ltRw_trans h h2)
 rcases h3 with h3 | ⟨_, h3⟩
 ·omega
 ·rw [sLt_irr] at h3; cases h3
theorem ltRw_tot {a b : NeedS} (hne : a ≠ b) (h : ltRw a b = false) : ltRw b a = true := by
 rw [Bool.eq_false_iff] at h
 rw [ltRw_iff]
 have h1 : ¬ _ := fun e => h (ltRw_iff.2 e)
 rcases Int.lt_trichotomy a.count b.count with k | k | k
 ·exact .inl k
 ·refine .inr ⟨k, ?_⟩
  have h2 : sLt a.key b.key = false := Bool.eq_false_iff.2 fun e => h1 (.inr ⟨k.symm, e⟩)
  refine sLt_total h2 fun e => hne ?_
  cases a; cases b
  simp only at e k
  subst e; subst k; rfl
 ·exact absurd (.inl k) h1
theorem ltRw_neg {a b d : NeedS} (h1 : ltRw b a = false) (h2 : ltRw d b = false) : ltRw d a = false := by
 by_cases e1 : a = b
 ·subst e1; exact h2
 ·by_cases e2 : b = d
  ·subst e2; exact h1
  ·exact ltRw_as (ltRw_trans (ltRw_tot (Ne.symm e1) h1) (ltRw_tot (Ne.symm e2) h2))
def rowsU (m : RwM) (n : Int) : List NeedS := (m.map ndOf).filter fun x => decide (n ≤ x.count)
def rowsR (m : RwM) (n : Int) : List NeedS := (rowsU m n).mergeSort fun x y => !ltRw y x
theorem rowsR_perm (m : RwM) (n : Int) : (rowsR m n).Perm (rowsU m n) := List.mergeSort_perm _ _
theorem rowsR_ord (m : RwM) (n : Int) : OrdL ltRw (rowsR m n) := by
 have h := List.pairwise_mergeSort (le := fun x y => !ltRw y x) (fun a b c h1 h2 => by
  simp only [Bool.not_eq_true'] at *
  exact ltRw_neg h1 h2) (fun a b => by
  cases h : ltRw b a
  ·rfl
  ·rw [ltRw_as h]; rfl) (rowsU m n)
 exact h.imp fun {a b} hab => by simpa using hab
theorem rowsU_nodup {m : RwM} {n : Int} (h : (m.map (·.1)).Nodup) : (rowsU m n).Nodup := by
 have : (m.map ndOf).Nodup := by
  have h2 : ((m.map ndOf).map (·.key)).Nodup := by rw [List.map_map]; exact h
  exact (List.pairwise_map.1 h2).imp fun hne e => hne (congrArg _ e)
 exact this.sublist List.filter_sublist
def pickR (m : RwM) (n : Int) (seen : List Nat) : List NeedS := (pickN m seen).filter fun x => decide (n ≤ x.count)
theorem pickR_yes {m : RwM} {n : Int} {j : Nat} {seen : List Nat} (h : n ≤ (m.getD j default).2) : pickR m n (j :: seen) = pickR m n seen ++ [ndOf (m.getD j default)] := by
 unfold pickR; rw [pickN_cons, List.filter_append, List.filter_cons, if_pos (by exact decide_eq_true h)]; rfl
theorem pickR_no {m : RwM} {n : Int} {j : Nat} {seen : List Nat} (h : ¬ n ≤ (m.getD j default).2) : pickR m n (j :: seen) = pickR m n seen := by
 unfold pickR; rw [pickN_cons, List.filter_append, List.filter_cons, if_neg (by intro e; exact h (of_decide_eq_true e)), List.filter_nil, List.append_nil]
theorem pickR_len (m : RwM) (n : Int) (seen : List Nat) : (pickR m n seen).length ≤ seen.length := by
 have := List.length_filter_le (fun x : NeedS => decide (n ≤ x.count)) (pickN m seen)
 rw [pickN_len] at this; exact this
theorem rowsR_one {m : RwM} {n : Int} {seen : List Nat} {r : List NeedS} (h : (m.map (·.1)).Nodup) (hd : seen.Nodup) (hs : ∀ j ∈ seen, j < m.length) (ha : ∀ j, j < m.length → j ∈ seen) (hr : r.Perm (pickR m n seen)) (ho : OrdL ltRw r) : rowsR m n = r := by
 have hp : (pickR m n seen).Perm (rowsU m n) := (pickN_perm hd hs ha).filter _
 exact ord_unique ((rowsR_perm m n).trans (hp.symm.trans hr.symm)) ((rowsR_perm m n).nodup_iff.2 (rowsU_nodup h)) (fun a _ b _ hne h => ltRw_tot hne h) (rowsR_ord m n) ho
def rwOut (r : List NeedS) : List PairS := r.map fun x => ⟨x.key, decB x.count.toNat⟩
def rowsL (l : List LookS) (n : Int) : List PairS := rwOut (rowsR (rwS l).2 n)
end Go.Proofs.YtdnlhdilpdeecaaGreatDoor
namespace Go.Proofs.YtdnlhdilpdeecaaGreatDoor
open Go.RowKit
set_option linter.unusedVariables false
set_option linter.unusedSimpArgs false
section
variable {κ α : Type}
abbrev mapX (kv : κ → Value) (g : Nat) (E : α → AV) (l : List (κ × α × Nat)) (clk : Nat) : Ent := .mp g (l.map fun p => (kv p.1, E p.2.1, p.2.2)) clk
def stampL : List (κ × α) → Nat → List (κ × α × Nat)
 | [], _ => []
 | p :: r, i => (p.1, p.2, i) :: stampL r (i + 1)
theorem mE_stamp {kv : κ → Value} {E : α → AV} : ∀ (l : List (κ × α)) (i : Nat), mE kv E l i = (stampL l i).map fun p => (kv p.1, E p.2.1, p.2.2)
 | [], _ => rfl
 | p :: r, i => by simp only [mE, stampL, List.map_cons, mE_stamp r (i + 1)]
theorem mapE_X {kv : κ → Value} {E : α → AV} {g : Nat} (l : List (κ × α)) : mapE kv g E l = mapX kv g E (stampL l 0) l.length := by
 unfold mapE mapX; rw [mE_stamp]
theorem stampL_born : ∀ (l : List (κ × α)) (i : Nat), (stampL l i).map (·.2.2) = List.range' i l.length
 | [], _ => rfl
 | p :: r, i => by simp [stampL, stampL_born r (i + 1), List.range'_succ]
theorem stampL_keys : ∀ (l : List (κ × α)) (i : Nat), (stampL l i).map (·.1) = l.map (·.1)
 | [], _ => rfl
 | p :: r, i => by simp [stampL, stampL_keys r (i + 1)]
theorem stampL_filter (q : κ → α → Bool) : ∀ (l : List (κ × α)) (i : Nat), ((stampL l i).filter fun p => q p.1 p.2.1).map (fun p => (p.1, p.2.1)) = l.filter fun p => q p.1 p.2
 | [], _ => rfl
 | p :: r, i => by
  rw [stampL, List.filter_cons, List.filter_cons]
  cases h : q p.1 p.2 <;> simp [stampL_filter q r (i + 1)]
end
section
variable {κ α : Type} {P : Program} {B : Bs} {W : Nat → Prop} {s : St'} {o : Oper} {K : St' → Prop} {kv : κ → Value} {E : α → AV} {w : World} {a : Act}
theorem EntR.toX {g clk : Nat} {l : List (κ × α × Nat)} {Z : Nat → Prop} (h : EntR w Z (mapX kv g E l clk)) : ∃ c : Array MapEntry, w.heap[g]? = some (.map c clk) ∧ c.size = l.length ∧ (l.map (·.2.2)).Nodup ∧ ∀ j (hj : j < l.length), (c[j]!).key = kv (l[j]).1 ∧ (c[j]!).born = (l[j]).2.2 ∧ (l[j]).2.2 < clk ∧ Rep w Z (E (l[j]).2.1) (c[j]!).val := by
 obtain ⟨c, h1, h2, h3, h4⟩ := h
 refine ⟨c, h1, by simpa using h2, by simpa [Function.comp_def] using h3, fun j hj => ?_⟩
 have := h4 j (by simpa using hj)
 simpa using this
theorem EntR.ofX {g clk : Nat} {l : List (κ × α × Nat)} {Z : Nat → Prop} {c : Array MapEntry} (h1 : w.heap[g]? = some (.map c clk)) (h2 : c.size = l.length) (h3 : (l.map (·.2.2)).Nodup) (h4 : ∀ j (hj : j < l.length), (c[j]!).key = kv (l[j]).1 ∧ (c[j]!).born = (l[j]).2.2 ∧ (l[j]).2.2 < clk ∧ Rep w Z (E (l[j]).2.1) (c[j]!).val) : EntR w Z (mapX kv g E l clk) := by
 refine ⟨c, h1, by simpa using h2, by simpa [Function.comp_def] using h3, fun j hj => ?_⟩
 have := h4 j (by simpa using hj)
 simpa using this
theorem OpE.rangeO {t kt e : TypeId} {x : Operand} {m i clk : Nat} {l : List (κ × α × Nat)} (ho : o.op = .range t x) (hB : B.Ok) (hd : okd B.nt o.dst = true) (hu : P.underlying t = some (.map kt e)) (hx : evO s x = some (.v (.map (some m)))) (hi : s.hp[i]? = some (mapX kv m E l clk))
  (hK : ∀ g, K ((St'.mk s.sl (s.hp ++ [.ob g (.mapIter (some m) clk #[] clk)]) s.k).put o.dst (.v (.pointer (some ⟨g, 0, none⟩))))) : OpE P B W s o K := by
 intro a w hr next Qx hn
 have hm := List.mem_of_getElem? hi
 obtain ⟨c, h1, _⟩ := EntR.toX (hr.blocks _ hm)
 have h2 := hr.new hB (.mapIter (some m) clk #[] clk) (.ob w.heap.size (.mapIter (some m) clk #[] clk)) rfl (heap_alloc_new w _)
 have hrun : (execOp a.eval o).run P w = .ok (.value (.pointer (some ⟨w.heap.size, 0, none⟩))) (w.alloc (.mapIter (some m) clk #[] clk)) := by
  have hxe : a.eval x = _ := (hr.ev hx).eq_v
  simp [execOp, ho, hxe, run_range_map w t kt e m c clk hu h1]
 unfold Oper.wp
 rw [hrun]
 exact hn _ _ _ (hK _) (h2.put _ hd _ _ (.v _)) (.ofN ((Chg.refl _ _).alloc _))
theorem OpE.rangeE {t kt e : TypeId} {x : Operand} {m i : Nat} {l : List (κ × α)} (ho : o.op = .range t x) (hB : B.Ok) (hd : okd B.nt o.dst = true) (hu : P.underlying t = some (.map kt e)) (hx : evO s x = some (.v (.map (some m)))) (hi : s.hp[i]? = some (mapE kv m E l))
  (hK : ∀ g, K ((St'.mk s.sl (s.hp ++ [.ob g (.mapIter (some m) l.length #[] l.length)]) s.k).put o.dst (.v (.pointer (some ⟨g, 0, none⟩))))) : OpE P B W s o K :=
 OpE.rangeO ho hB hd hu hx (by rw [← mapE_X]; exact hi) hK
theorem OpE.nextO {x : Operand} {g m i k clk : Nat} {sb : Array Nat} {l : List (κ × α × Nat)} (ho : o.op = .next x false) (hB : B.Ok) (hd : okd B.nt o.dst = true) (hx : evO s x = some (.v (.pointer (some ⟨g, 0, none⟩)))) (hi : s.hp[i]? = some (.ob g (.mapIter (some m) clk sb clk))) (hk : s.hp[k]? = some (mapX kv m E l clk)) (hW : W g)
  (h0 : (∀ j (h : j < l.length), sb.contains (l[j]).2.2 = true) → K (s.put o.dst (.tup [avB false])))
  (h1 : ∀ j (h : j < l.length), sb.contains (l[j]).2.2 = false → K ((St'.mk s.sl (s.hp.set i (.ob g (.mapIter (some m) clk (sb.push (l[j]).2.2) clk))) s.k).put o.dst (.tup [avB true, .v (kv (l[j]).1), E (l[j]).2.1]))) : OpE P B W s o K := by
 intro a w hr next Qx hn
 have hm := List.mem_of_getElem? hi
 have hmk := List.mem_of_getElem? hk
 have hg : w.heap[g]? = _ := hr.blocks _ hm
 obtain ⟨c, hc, hcs, hnd, hce⟩ := EntR.toX (hr.blocks _ hmk)
 have hxe : a.eval x = _ := (hr.ev hx).eq_v
 have hold : ∀ x ∈ c.toList, x.born < clk := fun x hx => by
  obtain ⟨j, hj, rfl⟩ := List.getElem_of_mem hx
  have hj' : j < c.size := by simpa using hj
  have := hce j (by omega)
  rw [getElem!_pos c j hj'] at this
  have h2 : (c.toList[j]).born = _ := this.2.1
  rw [h2]; exact this.2.2.1
 unfold Oper.wp
 rcases run_next_it (P := P) w o.type m g clk sb c hg hc hold with ⟨hz, hrun⟩ | ⟨e, he, w1, hw1, hrun⟩
 ·have hex : (execOp a.eval o).run P w = .ok (.value (.tuple #[.bool false])) w := by simp [execOp, ho, hxe, hrun]
  rw [hex]
  refine hn _ _ _ (h0 fun j hj => ?_) (hr.put _ hd _ _ (.tup _ _ rfl fun q hq => ?_)) (.ofN (Chg.refl _ _))
  ·by_cases hb : sb.contains (l[j]).2.2 = true
   ·exact hb
   ·exfalso
    have hjc : j < c.size := by omega
    have : c[j]! ∈ leftOf c sb := by
     unfold leftOf
     rw [Array.mem_filter]
     refine ⟨by rw [getElem!_pos c j hjc]; exact Array.getElem_mem hjc, by rw [(hce j hj).2.1]; rw [Bool.not_eq_true] at hb; rw [hb]; rfl⟩
    have := Array.size_pos_of_mem this
    omega
  ·simp at hq; subst hq; exact .v _
 ·obtain ⟨he1, he2⟩ := mem_left he
  obtain ⟨j, hj, rfl⟩ := List.getElem_of_mem he1
  have hjc : j < c.size := by simpa using hj
  have hjn : j < l.length := by omega
  have hej : c.toList[j] = c[j]! := by rw [getElem!_pos c j hjc]; simp
  rw [hej, (hce j hjn).2.1] at hrun he2
  have hgl : g < w.heap.size := hr.lt _ hm g rfl
  generalize hw2 : ({ w1 with heap := w1.heap.setIfInBounds g (.mapIter (some m) clk (sb.push (l[j]).2.2) clk) } : World) = w2 at hrun
  have hch : Chg (fun b => b = g) w w2 := by
   subst hw2
   rcases hw1 with rfl | rfl
   ·exact ⟨rfl, rfl, rfl, by simp, fun b hb hne => by simp [Array.getElem?_setIfInBounds]; intro e; exact absurd e.symm hne⟩
   ·exact ⟨rfl, rfl, rfl, by show w.heap.size ≤ (w.heap.setIfInBounds g _).size; simp, fun b hb hne => by show (w.heap.setIfInBounds g _)[b]? = w.heap[b]?; rw [Array.getElem?_setIfInBounds_ne (Ne.symm hne)]⟩
  have hg2 : w2.heap[g]? = some (.mapIter (some m) clk (sb.push (l[j]).2.2) clk) := by
   subst hw2
   rcases hw1 with rfl | rfl
   ·simp [hgl]
   ·show (w.heap.setIfInBounds g _)[g]? = _
    simp [hgl]
  have hz : ∀ b, Zn B s.hp w b → w2.heap[b]? = w.heap[b]? ∧ Zn B (s.hp.set i (.ob g (.mapIter (some m) clk (sb.push (l[j]).2.2) clk))) w2 b := fun b hb => by
   have hbg : b ≠ g := fun e => by subst e; exact hb.2.1 _ hm rfl
   refine ⟨hch.block b hb.1 hbg, Nat.lt_of_lt_of_le hb.1 hch.size, fun p hp hpb => ?_, hb.2.2⟩
   rcases List.mem_or_eq_of_mem_set hp with h | h
   ·exact hb.2.1 p h hpb
   ·subst h; exact hb.2.1 _ hm hpb
  have hex : (execOp a.eval o).run P w = .ok (.value (.tuple #[.bool true, (c[j]!).key, (c[j]!).val])) w2 := by simp [execOp, ho, hxe, hrun]
  rw [hex]
  have h2 := hr.set hB (e' := .ob g (.mapIter (some m) clk (sb.push (l[j]).2.2) clk)) hi (hch.mono fun b _ hb => by subst hb; rfl) (.inl rfl) hg2
  refine hn _ _ _ (h1 j hjn he2) (h2.put _ hd _ _ (.tup _ _ rfl fun q hq => ?_)) (hch.mono fun b _ hb => by subst hb; exact .inr hW)
  match q, hq with
  | 0, _ => exact .v _
  | 1, _ => show Rep _ _ (.v (kv (l[j]).1)) (c[j]!).key; rw [(hce j hjn).1]; exact .v _
  | 2, _ => exact (hce j hjn).2.2.2.keep fun b hb _ => hz b hb
theorem OpV.entryO {x : Operand} {g m i k clk j : Nat} {sb : Array Nat} {l : List (κ × α × Nat)} (ho : o.op = .entry x) (hB : B.Ok) (hx : evO s x = some (.v (.pointer (some ⟨g, 0, none⟩)))) (hj : j < l.length) (hi : s.hp[i]? = some (.ob g (.mapIter (some m) clk (sb.push (l[j]).2.2) clk))) (hk : s.hp[k]? = some (mapX kv m E l clk)) (hW : ¬ W g) (hW2 : ¬ W m) : OpV P B W s o (.tup [.v (kv (l[j]).1), E (l[j]).2.1]) := by
 intro a w hr
 have hm := List.mem_of_getElem? hi
 have hmk := List.mem_of_getElem? hk
 have hg : w.heap[g]? = _ := hr.blocks _ hm
 obtain ⟨c, hc, hcs, hnd, hce⟩ := EntR.toX (hr.blocks _ hmk)
 have hxe : a.eval x = _ := (hr.ev hx).eq_v
 have hjc : j < c.size := by omega
 refine ⟨.tuple #[(c[j]!).key, (c[j]!).val], fun w' hcw => ?_, .tup _ _ rfl fun q hq => ?_⟩
 ·have hg' : w'.heap[g]? = _ := (hcw.block g (hr.lt _ hm g rfl) fun h => h.elim (hr.notStr hB hm rfl) hW).trans hg
  have hm' : w'.heap[m]? = _ := (hcw.block m (hr.lt _ hmk m rfl) fun h => h.elim (hr.notStr hB hmk rfl) hW2).trans hc
  have hbn : (c.toList.map (·.born)).Nodup := by
   have : c.toList.map (·.born) = l.map (·.2.2) := by
    apply List.ext_getElem (by simp [hcs])
    intro q h1 h2
    have hq : q < l.length := by simpa using h2
    have := (hce q hq).2.1
    rw [getElem!_pos c q (by omega)] at this
    simpa using this
   rw [this]; exact hnd
  have := run_entry_it (P := P) w' m g clk (sb.push (l[j]).2.2) c (c[j]!) hg' hm' (by rw [getElem!_pos c j hjc]; simp) hbn (by rw [(hce j hj).2.1]; simp)
  simp [execOp, ho, hxe, this]
 ·match q, hq with
  | 0, _ => show Rep _ _ (.v (kv (l[j]).1)) (c[j]!).key; rw [(hce j hj).1]; exact .v _
  | 1, _ => exact (hce j hj).2.2.2
theorem OpE.deleteO [DecidableEq κ] {x y : Operand} {T T2 kt e m i clk : Nat} {k : κ} {l : List (κ × α × Nat)} (ho : o.op = .call { callee := .builtin .delete, args := #[x, y], argTypes := #[T, T2] }) (hB : B.Ok) (hd : okd B.nt o.dst = true) (hu : P.underlying T = some (.map kt e)) (hko : KeyOk P kt kv)
  (hx : evO s x = some (.v (.map (some m)))) (hy : evO s y = some (.v (kv k))) (hi : s.hp[i]? = some (mapX kv m E l clk)) (hp : mpos l k < l.length) (hW : W m)
  (hK : K ((St'.mk s.sl (s.hp.set i (mapX kv m E (l.eraseIdx (mpos l k)) clk)) s.k).put o.dst (.v (.tuple #[])))) : OpE P B W s o K := by
 intro a w hr next Qx hn
 have hm := List.mem_of_getElem? hi
 obtain ⟨c, hc, hcs, hnd, hce⟩ := EntR.toX (hr.blocks _ hm)
 have hf := hko.find l c.toList k w (by simpa using hcs) (fun j hj => ⟨c[j]!, by rw [Array.getElem?_toList, getElem!_pos c j (by omega)]; exact Array.getElem?_eq_getElem _, (hce j hj).1⟩)
 rw [if_pos hp, Array.getElem?_toList, Array.getElem?_eq_getElem (by omega)] at hf
 have hgl : m < w.heap.size := (Array.getElem?_eq_some_iff.1 hc).1
 have hrun : (execOp a.eval o).run P w = .ok (.value (.tuple #[])) (w.setMp m (c.eraseIdxIfInBounds (mpos l k)) clk) := by
  simp [execOp, ho, resolve, invoke, builtin, Builtin.delete_, run_underlying hu, hr.evv hx, hr.evv hy, getMap hc, hko.check, hf, putMap _ _ hc, World.setMp]
 have hel : ∀ j, j < (l.eraseIdx (mpos l k)).length → ∃ q, ∃ hq : q < l.length, (l.eraseIdx (mpos l k))[j]? = some l[q] ∧ (c.eraseIdxIfInBounds (mpos l k))[j]! = c[q]! := fun j hj => by
  rw [List.length_eraseIdx_of_lt hp] at hj
  refine ⟨if j < mpos l k then j else j + 1, by split <;> omega, ?_, ?_⟩
  ·rw [List.getElem?_eraseIdx]
   split
   ·exact List.getElem?_eq_getElem (by omega)
   ·exact List.getElem?_eq_getElem (by omega)
  ·have hpc : mpos l k < c.size := by omega
   rw [Array.eraseIdxIfInBounds_eq, dif_pos hpc, getElem!_pos _ j (by simp; omega), getElem!_pos c _ (by split <;> omega), Array.getElem_eraseIdx]
   split <;> rfl
 have hr' := hr.set hB (e' := mapX kv m E (l.eraseIdx (mpos l k)) clk) hi (chg_setMp w m (c.eraseIdxIfInBounds (mpos l k)) clk) (.inl rfl) (EntR.ofX (setMp_heap w m c _ _ _ hc) (by
   rw [List.length_eraseIdx_of_lt hp, Array.eraseIdxIfInBounds_eq, dif_pos (by omega)]; simp [hcs]) (hnd.sublist ((List.eraseIdx_sublist _ _).map _)) fun j hj => by
  obtain ⟨q, hq, e1, e2⟩ := hel j hj
  have e3 : (l.eraseIdx (mpos l k))[j] = l[q] := by
   rw [List.getElem?_eq_getElem hj] at e1; exact Option.some.inj e1
  rw [e2, e3]
  obtain ⟨k1, k2, k3, k4⟩ := hce q hq
  refine ⟨k1, k2, k3, k4.keep fun b hb hbl => ⟨setMp_other w m b _ _ fun e => hb.2.1 _ hm (by rw [e]; rfl), by simp [World.setMp]; exact hbl, fun p hp => ?_, hb.2.2⟩⟩
  rcases List.mem_or_eq_of_mem_set hp with hp | hp
  ·exact hb.2.1 p hp
  ·subst hp; exact hb.2.1 (mapX kv m E l clk) hm)
 unfold Oper.wp
 rw [hrun]
 exact hn _ _ _ hK (hr'.put _ hd _ _ (.v _)) ((chg_setMp w m _ _).mono fun b _ h => .inr (by cases h; exact hW))
end
end Go.Proofs.YtdnlhdilpdeecaaGreatDoor
namespace Go.Proofs.YtdnlhdilpdeecaaGreatDoor
open Go.RowKit
set_option linter.unusedVariables false
set_option linter.unusedSimpArgs false
section
variable {κ α : Type} {pd : κ → α → Bool} {l : List (κ × α)} {sb : Array Nat}
def delX (pd : κ → α → Bool) (l : List (κ × α)) (sb : Array Nat) : List (κ × α × Nat) := (stampL l 0).filter fun p => !(sb.contains p.2.2 && pd p.1 p.2.1)
def delN (l : List (κ × α)) (sb : Array Nat) : Nat := ((stampL l 0).filter fun p => !sb.contains p.2.2).length
theorem stampL_mem : ∀ (l : List (κ × α)) (i : Nat) {p : κ × α × Nat}, p ∈ stampL l i → (p.1, p.2.1) ∈ l
 | [], _, p, h => by simp [stampL] at h
 | q :: r, i, p, h => by
  rw [stampL, List.mem_cons] at h
  rcases h with rfl | h
  ·exact List.mem_cons_self ..
  ·exact List.mem_cons_of_mem _ (stampL_mem r (i + 1) h)
theorem nodup_inj {β γ : Type} {f : β → γ} {x : List β} (h : (x.map f).Nodup) {a b : β} (ha : a ∈ x) (hb : b ∈ x) (e : f a = f b) : a = b := by
 obtain ⟨i, hi, rfl⟩ := List.getElem_of_mem ha
 obtain ⟨j, hj, rfl⟩ := List.getElem_of_mem hb
 have n := List.pairwise_iff_getElem.1 h
 rcases Nat.lt_trichotomy i j with k | k | k
 ·exact absurd (by rw [List.getElem_map, List.getElem_map]; exact e) (n i j (by simpa using hi) (by simpa using hj) k)
 ·subst k; rfl
 ·exact absurd (by rw [List.getElem_map, List.getElem_map]; exact e.symm) (n j i (by simpa using hj) (by simpa using hi) k)
theorem stampL_bnd : ((stampL l 0).map (·.2.2)).Nodup := by rw [stampL_born]; exact List.nodup_range'
theorem delX_0 : delX pd l #[] = stampL l 0 := List.filter_eq_self.2 fun p _ => by simp
theorem delX_in {p : κ × α × Nat} (h : p ∈ delX pd l sb) : p ∈ stampL l 0 := (List.mem_filter.1 h).1
theorem push_has (sb : Array Nat) (b x : Nat) : (sb.push b).contains x = (sb.contains x || x == b) := by
 rw [Bool.eq_iff_iff]; simp
theorem delX_no {p : κ × α × Nat} (h : p ∈ delX pd l sb) (hp : pd p.1 p.2.1 = false) : delX pd l (sb.push p.2.2) = delX pd l sb := List.filter_congr fun q hq => by
 rw [push_has]
 by_cases e : q.2.2 = p.2.2
 ·have : q = p := nodup_inj stampL_bnd hq (delX_in h) e
  subst this; simp [hp]
 ·have : (q.2.2 == p.2.2) = false := by simpa using e
  rw [this, Bool.or_false]
theorem erase_filter {β γ : Type} [DecidableEq γ] {f : β → γ} : ∀ (x : List β) (h : (x.map f).Nodup) (j : Nat) (hj : j < x.length), x.eraseIdx j = x.filter fun q => !decide (f q = f x[j])
 | [], _, j, hj => by simp at hj
 | a :: x, h, 0, _ => by
  rw [List.map_cons, List.nodup_cons] at h
  rw [List.eraseIdx_cons_zero, List.filter_cons]
  simp only [List.getElem_cons_zero, decide_true, Bool.not_true, Bool.false_eq_true, if_false]
  exact (List.filter_eq_self.2 fun q hq => by
   have : f q ≠ f a := fun e => h.1 (e ▸ List.mem_map_of_mem hq)
   simp [this]).symm
 | a :: x, h, j + 1, hj => by
  rw [List.map_cons, List.nodup_cons] at h
  have hj' : j < x.length := by simpa using hj
  have : f a ≠ f x[j] := fun e => h.1 (e ▸ List.mem_map_of_mem (List.getElem_mem hj'))
  rw [List.eraseIdx_cons_succ, List.filter_cons, erase_filter x h.2 j hj']
  simp [this]
theorem delX_yes {j : Nat} (hj : j < (delX pd l sb).length) (hp : pd ((delX pd l sb)[j]).1 ((delX pd l sb)[j]).2.1 = true) : delX pd l (sb.push ((delX pd l sb)[j]).2.2) = (delX pd l sb).eraseIdx j := by
 have hm := List.getElem_mem hj
 have hnd : ((delX pd l sb).map (·.2.2)).Nodup := stampL_bnd.sublist (List.filter_sublist.map _)
 rw [erase_filter (f := fun p => p.2.2) _ hnd j hj]
 generalize (delX pd l sb)[j] = p at hm hp
 conv => rhs; unfold delX
 rw [List.filter_filter]
 refine List.filter_congr fun q hq => ?_
 rw [push_has]
 by_cases e : q.2.2 = p.2.2
 ·have : q = p := nodup_inj stampL_bnd hq (delX_in hm) e
  subst this; simp [hp]
 ·have : (q.2.2 == p.2.2) = false := by simpa using e
  rw [this, Bool.or_false]; simp [e]
theorem mpos_nodup [DecidableEq κ] {β : Type} : ∀ (x : List (κ × β)) (h : (x.map (·.1)).Nodup) (j : Nat) (hj : j < x.length), mpos x (x[j]).1 = j
 | [], _, j, hj => by simp at hj
 | a :: x, h, 0, _ => by simp [mpos]
 | a :: x, h, j + 1, hj => by
  rw [List.map_cons, List.nodup_cons] at h
  have hj' : j < x.length := by simpa using hj
  have : (x[j]).1 ≠ a.1 := fun e => h.1 (e ▸ List.mem_map_of_mem (List.getElem_mem hj'))
  simp only [List.getElem_cons_succ, mpos, if_neg this]
  rw [mpos_nodup x h.2 j hj']
theorem delX_keys (h : (l.map (·.1)).Nodup) : ((delX pd l sb).map (·.1)).Nodup := by
 rw [← stampL_keys l 0] at h
 exact h.sublist (List.filter_sublist.map _)
theorem delX_end (h : ∀ j (hj : j < (delX pd l sb).length), sb.contains ((delX pd l sb)[j]).2.2 = true) : ((delX pd l sb).map fun p => (p.1, p.2.1)) = l.filter fun p => !pd p.1 p.2 := by
 rw [← stampL_filter (fun k x => !pd k x) l 0]
 congr 1
 refine List.filter_congr fun q hq => ?_
 cases hp : pd q.1 q.2.1
 ·simp
 ·cases hc : sb.contains q.2.2
  ·have hm : q ∈ delX pd l sb := List.mem_filter.2 ⟨hq, by rw [hc]; rfl⟩
   obtain ⟨j, hj, e⟩ := List.getElem_of_mem hm
   have := h j hj
   rw [e, hc] at this; cases this
  ·rfl
theorem delN_lt {p : κ × α × Nat} (h : p ∈ stampL l 0) (hc : sb.contains p.2.2 = false) : delN l (sb.push p.2.2) < delN l sb := by
 unfold delN
 have e : ((stampL l 0).filter fun q => !(sb.push p.2.2).contains q.2.2) = ((stampL l 0).filter fun q => !sb.contains q.2.2).filter fun q => !decide (q.2.2 = p.2.2) := by
  rw [List.filter_filter]
  refine List.filter_congr fun q _ => ?_
  rw [push_has]
  by_cases e : q.2.2 = p.2.2 <;> simp [e]
 rw [e]
 have hm : p ∈ (stampL l 0).filter fun q => !sb.contains q.2.2 := List.mem_filter.2 ⟨h, by rw [hc]; rfl⟩
 exact List.length_filter_lt_length_iff_exists.2 ⟨p, hm, by simp⟩
end
set_option maxRecDepth 100000 in
theorem maps_DeleteFunc_sh {l : List (ByteArray × ShS)} {g : Nat} {F : FuncId} {cs : List AV} {pd : ByteArray → ShS → Bool} (hk : (l.map (·.1)).Nodup) (hcall : ∀ us w, (callFunc F us).run Tryz.prog w = .ok (.enter F us) w) (hF : ∀ p ∈ l, Spec Tryz.prog F ([avS p.1, eSh p.2] ++ cs) (fun y => y = avB (pd p.1 p.2))) :
  SpecH Tryz.prog 120 [.v (.map (some g)), .fn F cs] [mapE kvS g eSh l] (fun y hp' => y = .tup [] ∧ ∃ l', (l'.map fun p => (p.1, p.2.1)) = l.filter (fun p => !pd p.1 p.2) ∧ hp' = [mapX kvS g eSh l' l.length]) := by
 refine SpecH.of_VC Tryz.func120 rfl Tryz.ntmps120 (Nle rfl) fun w A hB => ?_
 have hnew : True := trivial
 refine VC.sr ?_
 refine VO.mv rfl rfl rfl rfl ?_
 refine VO.op rfl (OpE.rangeE (i := 0) rfl hB rfl Tryz.underlying151 rfl rfl ?_)
 intro g7
 refine VO.nil ?_
 refine VC.block ?_
 refine VC.loopK [(0, _), (1, _), (7, _)] ⟨rfl, rfl, rfl, trivial⟩ ({sb : Array Nat // True}) (fun (iZ : {sb : Array Nat // True}) => match iZ with | ⟨sb, hsb⟩ => []) (fun (iZ : {sb : Array Nat // True}) => match iZ with | ⟨sb, hsb⟩ => [mapX kvS g eSh (delX pd l sb) l.length, .ob g7 (.mapIter (some g) l.length sb l.length)]) (fun (iZ : {sb : Array Nat // True}) => match iZ with | ⟨sb, hsb⟩ => 0) (fun (iZ : {sb : Array Nat // True}) => match iZ with | ⟨sb, hsb⟩ => delN l sb) ⟨#[], trivial⟩ (Le.mk hB [0, 1] ⟨rfl, rfl, rfl, trivial⟩ rfl (by dsimp only; rw [mapE_X, ← delX_0 (pd := pd)]; rfl) (Nat.le_refl _)) ?_
 rintro ⟨sb, hsb⟩
 show VC _ _ _ _ ⟨[] ++ [(0, _), (1, _), (7, _)], [mapX kvS g eSh (delX pd l sb) l.length, .ob g7 (.mapIter (some g) l.length sb l.length)], 0⟩
 have hkx := delX_keys (pd := pd) (sb := sb) hk
 refine VC.sr ?_
 refine VO.op rfl (OpE.nextO (i := 1) (k := 0) rfl hB rfl rfl rfl rfl trivial ?_ ?_)
 ·intro hall8
  refine VO.le _ (Le.pickH [0] rfl rfl) ?_
  refine VO.val rfl rfl (OpV.extract rfl rfl rfl) ?_
  refine VO.nil ?_
  refine VC.seq ?_
  refine VC.condF rfl rfl ?_
  refine VC.exit ?_
  exact Exists.intro _ (And.intro (RetV.none Tryz.results120) (⟨rfl, _, delX_end hall8, rfl⟩))
 ·intro j8 hj8 hn8
  have hm8 := List.getElem_mem hj8
  have hlt8 := delN_lt (delX_in hm8) hn8
  have hmp := mpos_nodup _ hkx j8 hj8
  refine VO.val rfl rfl (OpV.extract rfl rfl rfl) ?_
  refine VO.nil ?_
  refine VC.seq ?_
  refine VC.condT rfl rfl ?_
  refine VC.skip ?_
  refine VC.block ?_
  refine VC.sr ?_
  refine VO.val rfl rfl (OpV.entryO (i := 1) (k := 0) rfl hB rfl hj8 rfl rfl (fun h => h) (fun h => h)) ?_
  refine VO.val rfl rfl (OpV.extract rfl rfl rfl) ?_
  refine VO.val rfl rfl (OpV.extract rfl rfl rfl) ?_
  refine VO.op rfl (OpE.alloc rfl hB rfl Tryz.zeroValue156 rfl ?_)
  intro g5
  refine VO.ma rfl rfl rfl rfl ?_
  refine VO.op rfl (OpE.store (i := 2) rfl hB rfl Tryz.sizeOf156 rfl rfl rfl rfl rfl rfl (Nle rfl) trivial ?_)
  refine VO.nil ?_
  refine VC.sr ?_
  refine VO.mv rfl rfl rfl rfl ?_
  refine VO.mv rfl rfl rfl rfl ?_
  refine VO.val rfl rfl (OpV.loadK_own (i := 2) rfl hB Tryz.isAgg156 Tryz.sizeOf156 rfl rfl rfl (fun h => h)) ?_
  refine VO.op rfl (OpE.callF rfl hB rfl hcall rfl rfl (hF _ (stampL_mem l 0 (delX_in hm8))) ?_)
  rintro _ rfl
  refine VO.nil ?_
  refine VC.cond rfl (fun h1b => ?_) (fun h1b => ?_)
  ·have h1 := h1b
   try simp only [qqT, qqF, qqN, qqM, qqL, qqE] at h1
   refine VC.region ?_
   refine VO.mv rfl rfl rfl rfl ?_
   refine VO.mv rfl rfl rfl rfl ?_
   refine VO.op rfl (OpE.deleteO (i := 0) rfl hB rfl Tryz.underlying151 (KeyOk.str Tryz.underlying9) rfl rfl rfl (by rw [hmp]; exact hj8) trivial ?_)
   refine VO.nil ?_
   exact Exists.intro (⟨sb.push ((delX pd l sb)[j8]).2.2, trivial⟩) (And.intro (Le.mk hB [0, 1] ⟨rfl, rfl, rfl, trivial⟩ rfl (by dsimp only; first | (rw [delX_yes hj8 h1, hmp]; rfl) | (rw [delX_no hm8 h1]; rfl)) (Nat.le_refl _)) (by first | omega | (show _ < _; omega) | (simp only []; omega)))
  ·have h1 := h1b
   try simp only [qqT, qqF, qqN, qqM, qqL, qqE] at h1
   refine VC.skip ?_
   exact Exists.intro (⟨sb.push ((delX pd l sb)[j8]).2.2, trivial⟩) (And.intro (Le.mk hB [0, 1] ⟨rfl, rfl, rfl, trivial⟩ rfl (by dsimp only; first | (rw [delX_yes hj8 h1, hmp]; rfl) | (rw [delX_no hm8 h1]; rfl)) (Nat.le_refl _)) (by first | omega | (show _ < _; omega) | (simp only []; omega)))
end Go.Proofs.YtdnlhdilpdeecaaGreatDoor
namespace Go.Proofs.YtdnlhdilpdeecaaGreatDoor
open Go.RowKit Go.Maps Go.Sort Go.Shelf
set_option linter.unusedVariables false
set_option linter.unusedSimpArgs false
section
variable {P : Program} {w : World} {kt : TypeId}
theorem own_of_mapX {α : Type} {E : α → AV} {g clk : Nat} {l : List (ByteArray × α × Nat)} {Z : Nat → Prop} (hk : P.underlying kt = some .string) (h : EntR w Z (mapX (fun k : ByteArray => Value.string k) g E l clk)) (hnd : (l.map (·.1)).Nodup) (hs : ∀ p ∈ l, p.1.size ≤ maxLen) (hl : l.length ≤ maxLen) :
  ∃ D : DataW Unit, w.ownsMap P kt (fun _ => some (.nil, [])) g l.length D ∧ Maps.size D = l.length ∧ (strKeys D).Perm (l.map fun p => p.1.data.toList) := by
 obtain ⟨c, h1, h2, hbn, h3⟩ := h.toX
 have hmem : ∀ x ∈ c.toList, ∃ j, ∃ hj : j < l.length, x = c[j]! := fun x hx => by
  obtain ⟨j, hj, rfl⟩ := List.getElem_of_mem hx
  simp at hj
  exact ⟨j, by omega, by rw [getElem!_pos c j hj]; simp⟩
 have hrd : ∀ x ∈ c.toList, ∀ j (hj : j < l.length), x = c[j]! → WideElems.rd (H := Unit) P kt (fun _ => some (.nil, [])) x = some (.string (l[j]).1.data.toList, .nil) := fun x hx j hj e => by
  have hk1 := (h3 j hj).1
  obtain ⟨key, val, born⟩ := x
  have : key = .string (l[j]).1 := by rw [← hk1, ← e]
  subst this
  exact WideElems.rd_mk (R := fun _ => some (.nil, [])) (yv := (.nil, [])) (Go.WideMaps.keyOf_string_mk hk (hs _ (List.getElem_mem hj))) rfl
 have hF : WideElems.Fit (H := Unit) P kt (fun _ => some (.nil, [])) c clk := ⟨by omega, (MapKept.stamped_iff _ _).2 ⟨fun x hx => by
   obtain ⟨j, hj, rfl⟩ := hmem x hx
   rw [(h3 j hj).2.1]; exact (h3 j hj).2.2.1, by
   have : c.toList.map (·.born) = l.map (·.2.2) := by
    refine List.ext_getElem (by simp [h2]) fun i k1 k2 => ?_
    simp at k1
    have := (h3 i (by omega)).2.1
    rw [getElem!_pos c i k1] at this
    simp [this]
   rw [this]; exact hbn, by
   rw [List.pairwise_iff_getElem]
   intro i j hi hj hij e
   simp at hi hj
   have k1 := (h3 i (by omega)).1
   have k2 := (h3 j (by omega)).1
   rw [getElem!_pos c i hi] at k1
   rw [getElem!_pos c j hj] at k2
   simp only [Array.getElem_toList] at e
   rw [k1, k2] at e
   have e' : (l[i]'(by omega)).1 = (l[j]'(by omega)).1 := by injection e
   have := (List.pairwise_iff_getElem.1 hnd) i j (by simp; omega) (by simp; omega) hij
   simp at this
   exact this e'⟩, fun x hx => by
   obtain ⟨j, hj, e⟩ := hmem x hx
   exact ⟨_, hrd x hx j hj e⟩⟩
 refine ⟨_, ⟨c, clk, h1, hF, by omega, rfl⟩, ?_, ?_⟩
 ·simp [Maps.size, (WideShapes.sorted_perm _).length_eq, h2]
 ·have hp := (WideShapes.sorted_perm (c.toList.map (WideElems.rg (H := Unit) P kt fun _ => some (.nil, []))))
  refine (hp.map (fun p => Go.strOf p.1)).trans (.of_eq ?_)
  refine List.ext_getElem (by simp [h2]) fun i k1 k2 => ?_
  simp at k1 k2
  have := hrd (c[i]!) (by rw [getElem!_pos c i (by omega)]; simp) i (by omega) rfl
  rw [getElem!_pos c i (by omega)] at this
  simp [WideElems.rg_of this]
  rfl
end
section
set_option maxHeartbeats 1000000 in
theorem slices_Sorted_shX {α : Type} {E : α → AV} {g mg clk : Nat} {l : List (ByteArray × α × Nat)} (hnd : (l.map (·.1)).Nodup) (hs : ∀ p ∈ l, p.1.size ≤ maxLen) (hl : l.length ≤ 1000000) :
    SpecH Tryz.prog 122 [.v (.func (.func 203) #[] #[.pointer (some ⟨g, 0, none⟩)])] [.box g ⟨[.v (.map (some mg))], 151, 1⟩, mapX (fun k : ByteArray => Value.string k) mg E l clk]
      (fun y hp' => ∃ u, y = .v u ∧ hp' = [.row u l.length 1 (strsL (sKeys l)) 9, .box g ⟨[.v (.map (some mg))], 151, 1⟩, mapX (fun k : ByteArray => Value.string k) mg E l clk]) := fun w A us ha hap hA hE => by
  have hu : us = #[.func (.func 203) #[] #[.pointer (some ⟨g, 0, none⟩)]] := by
    have h0 := ha.2 0 (by simp)
    have h1 : us.size = 1 := ha.1
    have h2 := h0.eq_v
    apply Array.ext (by simp [h1])
    intro i hi1 hi2
    obtain rfl : i = 0 := by omega
    rw [Array.getD_eq_getD_getElem?, Array.getElem?_eq_getElem (by omega)] at h2
    simpa using h2
  subst hu
  have hB := hE _ (List.mem_cons_self ..)
  have hM := hE _ (List.mem_cons_of_mem _ (List.mem_cons_self ..))
  obtain ⟨c, b1, b2, b3, b4⟩ := hB
  have hc : c = #[.map (some mg)] := by
    obtain ⟨u, q1, q2⟩ := b4 0 (by simp)
    have := q2.eq_v
    simp at b2 this
    apply Array.ext (by simp [b2])
    intro i hi1 hi2
    obtain rfl : i = 0 := by omega
    rw [Array.getElem?_eq_getElem (by omega)] at q1
    cases q1
    simpa using this
  subst hc
  have hlen : l.length ≤ maxLen := by simp only [maxLen]; omega
  obtain ⟨D, d1, d2, d3⟩ := own_of_mapX (kt := 9) Tryz.underlying9 hM hnd hs hlen
  have hgl : g < w.heap.size := (Array.getElem?_eq_some_iff.1 b1).1
  have hcell : w.cell? ⟨g, 0, none⟩ = some (.map (some mg)) := by simp [World.cell?, b1]
  have hseq : SeqGives Fence.wide 2 Tryz.prog 203 #[.pointer (some ⟨g, 0, none⟩)] encStr (fun ss => ss.Perm (strKeys D)) (Maps.size D) w :=
    AnyZ.keys_gives (ρ := Tryz.keys123_ren) { Tryz.keys123 with } Fence.wide _ trivial rfl (by omega) g mg l.length D _ hgl hcell d1
  have hsz : Maps.size D ≤ maxLen := by rw [d2]; exact hlen
  have hby : Maps.size D * 16 ≤ 140737488355328 := by rw [d2]; omega
  refine ((callsIn_wide (n := 5)).1 (AnyZ.sorted_in Tryz.sorted122 Fence.wide 5 trivial trivial trivial trivial rfl (by omega) (sortsK _) (enters_of Tryz.func101 (by kernel_rfl) rfl) 203 #[.pointer (some ⟨g, 0, none⟩)] trivial (enters_of Tryz.func203 (by kernel_rfl) rfl) _ _ hsz hby _ hseq)).mono ?_
  rintro e w' ⟨v, ss, rfl, hS, hrow, hnil, hb⟩
  have hS' : ss.Perm (l.map fun p => p.1.data.toList) := hS.trans d3
  have hssl : ss.length = l.length := by simpa using hS'.length_eq
  have hkeys : (ss.mergeSort (fun x y => decide (x ≤ y))).map encStr = (sKeys l).map fun k => Value.string k := by
    have := mergeSort_of_perm hS'
    unfold leB at this
    rw [this, sKeys, List.map_map]
    rfl
  rw [hkeys] at hrow
  have hchg : Chg NoB w w' := (Chg.ofBelow hb).mono fun k h1 h2 => absurd h1 (Nat.not_lt.2 h2)
  obtain ⟨r1, r2⟩ := hrow
  have hZ : ∀ b, b < w.heap.size ∧ A b → Zh w A [.box g ⟨[.v (.map (some mg))], 151, 1⟩, mapX (fun k : ByteArray => Value.string k) mg E l clk] [.row v l.length 1 (strsL (sKeys l)) 9, .box g ⟨[.v (.map (some mg))], 151, 1⟩, mapX (fun k : ByteArray => Value.string k) mg E l clk] w' b := fun b ⟨hb1, hb2⟩ => by
    refine ⟨Nat.lt_of_lt_of_le hb1 hchg.size, fun ⟨e, he, heb⟩ => ?_, fun _ => .inl hb2⟩
    rcases List.mem_cons.1 he with rfl | he
    · rcases r2 with ⟨rfl, _⟩ | ⟨g2, cap, cur, rfl, hge, _⟩
      · simp [Ent.blk, Value.ownBlock] at heb
      · simp [Ent.blk, Value.ownBlock] at heb; omega
    · exact hA b ⟨e, he, heb⟩ hb2
  have hold : ∀ e ∈ [Ent.box g ⟨[.v (.map (some mg))], 151, 1⟩, mapX (fun k : ByteArray => Value.string k) mg E l clk], ∀ b, e.blk = some b → b < w.heap.size := fun e he b heb => by
    rcases List.mem_cons.1 he with rfl | he
    · simp [Ent.blk] at heb; omega
    · simp at he; subst he
      simp [Ent.blk] at heb
      obtain ⟨c2, k1, _⟩ := hM
      have := (Array.getElem?_eq_some_iff.1 k1).1
      omega
  refine ⟨_, _, _, ⟨v, rfl, rfl⟩, rfl, ?_, .v _, fun e he => ?_, fun b ⟨e, he, heb⟩ hl => ?_, hchg.any⟩
  · refine List.pairwise_cons.2 ⟨fun q hq b h1 h2 => ?_, hap⟩
    rcases r2 with ⟨rfl, _⟩ | ⟨g2, cap, cur, rfl, hge, _⟩
    · simp [Ent.blk, Value.ownBlock] at h1
    · simp [Ent.blk, Value.ownBlock] at h1
      have := hold q hq b h2
      omega
  · rcases List.mem_cons.1 he with rfl | he
    · refine ⟨by simp [strsL, sKeys_len], ?_⟩
      rcases r2 with ⟨rfl, hz⟩ | ⟨g2, cap, cur, rfl, hge, k1, k2, k3, k4, k5⟩
      · exact .inl ⟨rfl, by omega⟩
      · refine .inr ⟨g2, cap, cur, by rw [hssl], by omega, k3, k1, k4, fun j hj => ?_⟩
        have hj' : j < (sKeys l).length := by simpa [strsL] using hj
        have hcur : cur[j]? = some (.string ((sKeys l)[j])) := by
          have := congrArg (fun z => z[j]?) k5
          simp only [List.getElem?_map, List.getElem?_eq_getElem hj', Option.map_some] at this
          rw [List.getElem?_take] at this
          split at this
          · simpa using this
          · cases this
        exact ⟨_, hcur, by simp only [strsL, List.getElem_map]; exact .v _⟩
    · exact (hE e he).keep (fun b hb _ => ⟨hchg.block b hb.1 (fun h => h), hZ b hb⟩) fun b hb => hchg.block b (hold e he b hb) (fun h => h)
  · rcases List.mem_cons.1 he with rfl | he
    · rcases r2 with ⟨rfl, _⟩ | ⟨g2, cap, cur, rfl, hge, _⟩
      · simp [Ent.blk, Value.ownBlock] at heb
      · simp [Ent.blk, Value.ownBlock] at heb; omega
    · exact ⟨e, he, heb⟩
end
end Go.Proofs.YtdnlhdilpdeecaaGreatDoor
namespace Go.Proofs.YtdnlhdilpdeecaaGreatDoor
open Go.RowKit
set_option linter.unusedVariables false
set_option linter.unusedSimpArgs false
theorem ResN.nilS {P : Program} {s : St'} {t : Nat} (h : look s.sl t = some (.v (.slice none 0 0))) : ResN P s (.tmp t) (avStrs []) := fun B a w hS hr => ⟨_, rfl, by
 show Rep w (NewZ B w) _ (a.tmps.getD t undef)
 rw [(hr.slots t _ h).eq_v]; exact .nil _ _⟩
theorem specH_fnv {P : Program} {F G : FuncId} {x : AV} {hp : List Ent} {Q : AV → List Ent → Prop} (h : SpecH P F [x, .fn G []] hp Q) : SpecH P F [x, .v (.func (.func G) #[] #[])] hp Q := fun w A us ha h2 h3 h4 => by
 refine h w A us ⟨ha.1, fun j hj => ?_⟩ h2 h3 h4
 match j, hj with
 | 0, hj => exact ha.2 0 (by simp)
 | 1, hj =>
  have h1 := ha.2 1 (by simp)
  have e : us.getD 1 undef = .func (.func G) #[] #[] := h1.eq_v
  show Rep w _ (.fn G []) (us.getD 1 undef)
  rw [e]
  exact .fn G [] #[] rfl fun j hj => by simp at hj
abbrev shV (f : LookS → ByteArray) (l : List LookS) : List (ByteArray × ShS) := shM (kvs (fun x => [f x]) l)
theorem shV_len (f : LookS → ByteArray) (l : List LookS) : (shV f l).length ≤ l.length := by
 have h := shM_len (kvs (fun x => [f x]) l)
 have h2 : (kvs (fun x => [f x]) l).length = l.length := by have := congrArg List.length (kvs_one_keys f l); simpa using this
 show (shM _).length ≤ _
 omega
def badF (f : LookS → ByteArray) (l : List LookS) (k : ByteArray) : Nat := badN (l.filter fun x => decide (f x = k))
theorem shV_get {f : LookS → ByteArray} {l : List LookS} {p : ByteArray × ShS} (h : p ∈ shV f l) : p.2.1 = badF f l p.1 := by
 obtain ⟨j, hj, rfl⟩ := List.getElem_of_mem h
 have h1 := shM_get (kvs (fun x => [f x]) l) ((shV f l)[j]).1
 rw [kvs_one, mgetD, mget_pos, mpos_nodup _ (shM_nodup _) j hj, List.getElem?_eq_getElem hj] at h1
 exact congrArg Prod.fst h1
section
variable {f : LookS → ByteArray} {l : List LookS} {q : Nat → Bool} {l' : List (ByteArray × ShS × Nat)}
theorem selK_keys (h : (l'.map fun p => (p.1, p.2.1)) = (shV f l).filter fun p => !q p.2.1) : l'.map (·.1) = ((shV f l).filter fun p => !q p.2.1).map (·.1) := by
 rw [← h, List.map_map]; rfl
theorem selK_nd (h : (l'.map fun p => (p.1, p.2.1)) = (shV f l).filter fun p => !q p.2.1) : (l'.map (·.1)).Nodup := by
 rw [selK_keys h]; exact (shM_nodup _).sublist (List.filter_sublist.map _)
theorem selK_len (h : (l'.map fun p => (p.1, p.2.1)) = (shV f l).filter fun p => !q p.2.1) : l'.length ≤ l.length := by
 have h1 := congrArg List.length h
 rw [List.length_map] at h1
 have h2 := List.length_filter_le (fun p : ByteArray × ShS => !q p.2.1) (shV f l)
 have h3 := shV_len f l
 omega
theorem selK_sz (hz : ∀ i, (f (l.getD i default)).size ≤ 1000000) (h : (l'.map fun p => (p.1, p.2.1)) = (shV f l).filter fun p => !q p.2.1) : ∀ p ∈ l', p.1.size ≤ maxLen := fun p hp => by
 have h1 : p.1 ∈ l'.map (·.1) := List.mem_map_of_mem hp
 rw [selK_keys h] at h1
 have h2 : p.1 ∈ (shV f l).map (·.1) := (List.filter_sublist.map _).subset h1
 rw [shM_mem, kvs_one_keys] at h2
 obtain ⟨y, hy, e⟩ := List.mem_map.1 h2
 obtain ⟨i, hi, rfl⟩ := List.getElem_of_mem hy
 have h3 := hz i
 rw [List.getD_eq_getElem?_getD, List.getElem?_eq_getElem hi] at h3
 have h4 : (f l[i]).size ≤ 1000000 := h3
 rw [← e]; unfold maxLen; omega
theorem selK (h : (l'.map fun p => (p.1, p.2.1)) = (shV f l).filter fun p => !q p.2.1) : sKeys l' = (uK (l.map f)).filter fun k => !q (badF f l k) := by
 have hs : Srt ((uK (l.map f)).filter fun k => !q (badF f l k)) := ⟨(uK_srt _).nd.sublist List.filter_sublist, (uK_srt _).ord.sublist List.filter_sublist⟩
 refine (sKeys_srt (selK_nd h)).uniq hs fun x => ?_
 rw [sKeys_mem, selK_keys h, List.mem_filter, uK_mem]
 constructor
 ·intro hx
  obtain ⟨p, hp, rfl⟩ := List.mem_map.1 hx
  obtain ⟨hp1, hp2⟩ := List.mem_filter.1 hp
  refine ⟨?_, by rw [← shV_get hp1]; exact hp2⟩
  have : p.1 ∈ (shV f l).map (·.1) := List.mem_map_of_mem hp1
  rw [shM_mem, kvs_one_keys] at this
  exact this
 ·rintro ⟨h1, h2⟩
  rw [← kvs_one_keys f l, ← shM_mem] at h1
  obtain ⟨p, hp, rfl⟩ := List.mem_map.1 h1
  exact List.mem_map_of_mem (List.mem_filter.2 ⟨hp, by rw [shV_get hp]; exact h2⟩)
end
def gdB (l : List LookS) : List ByteArray := (uK (l.map (·.board))).filter fun k => !decide ((0 : Int) < (badF (·.board) l k : Int))
def psN (l : List LookS) (n : Int) : List ByteArray := (uK (l.map (·.name))).filter fun k => !decide ((badF (·.name) l k : Int) < n)
set_option maxRecDepth 100000 in
theorem inspect_GoodBoards1 {x : LookS}  :
  Spec Tryz.prog 119 [avT x] (fun y => y = avStrs [x.board]) := by
 refine Spec.of_VC Tryz.func119 rfl Tryz.ntmps119 (Nle rfl) fun w A hB => ?_
 have hnew : True := trivial
 refine VC.sr ?_
 refine VO.op rfl (OpE.box rfl hB rfl rfl rfl ?_)
 intro g1
 refine VO.ma rfl rfl rfl rfl ?_
 refine VO.nil ?_
 refine VC.sr ?_
 refine VO.val rfl rfl (OpV.fieldAddrO 0 rfl Tryz.underlying80 rfl rfl Tryz.sizeOf9 rfl) ?_
 refine VO.val rfl rfl (OpV.load_own (i := 0) rfl hB Tryz.isAgg9 rfl rfl rfl (fun h => h)) ?_
 refine VO.op rfl (OpE.buildSlice (zc := #[.string ⟨#[]⟩]) rfl hB rfl Tryz.underlying29 Tryz.sizeOf9 Tryz.zeroValue9 (by decide) (by decide) (by kernel_rfl) rfl rfl ?_)
 refine VO.le _ (Le.litsS (t := 5) (xs := [x.board]) rfl rfl) ?_
 refine VO.ma rfl rfl rfl rfl ?_
 refine VO.nil ?_
 refine VC.ret ?_
 exact Exists.intro _ (And.intro (RetV.one Tryz.results119 (ResV.tmp rfl)) (rfl))
set_option maxRecDepth 100000 in
theorem inspect_Positions1 {x : LookS}  :
  Spec Tryz.prog 125 [avT x] (fun y => y = avStrs [x.name]) := by
 refine Spec.of_VC Tryz.func125 rfl Tryz.ntmps125 (Nle rfl) fun w A hB => ?_
 have hnew : True := trivial
 refine VC.sr ?_
 refine VO.op rfl (OpE.box rfl hB rfl rfl rfl ?_)
 intro g1
 refine VO.ma rfl rfl rfl rfl ?_
 refine VO.nil ?_
 refine VC.sr ?_
 refine VO.val rfl rfl (OpV.fieldAddrO 1 rfl Tryz.underlying80 rfl rfl Tryz.sizeOf9 rfl) ?_
 refine VO.val rfl rfl (OpV.load_own (i := 0) rfl hB Tryz.isAgg9 rfl rfl rfl (fun h => h)) ?_
 refine VO.op rfl (OpE.buildSlice (zc := #[.string ⟨#[]⟩]) rfl hB rfl Tryz.underlying29 Tryz.sizeOf9 Tryz.zeroValue9 (by decide) (by decide) (by kernel_rfl) rfl rfl ?_)
 refine VO.le _ (Le.litsS (t := 5) (xs := [x.name]) rfl rfl) ?_
 refine VO.ma rfl rfl rfl rfl ?_
 refine VO.nil ?_
 refine VC.ret ?_
 exact Exists.intro _ (And.intro (RetV.one Tryz.results125 (ResV.tmp rfl)) (rfl))
set_option maxRecDepth 100000 in
theorem inspect_GoodBoards2 {k : ByteArray} {s : ShS}  :
  Spec Tryz.prog 121 [avS k, eSh s] (fun y => y = avB (decide ((0 : Int) < (s.1 : Int)))) := by
 refine Spec.of_VC Tryz.func121 rfl Tryz.ntmps121 (Nle rfl) fun w A hB => ?_
 have hnew : True := trivial
 refine VC.sr ?_
 refine VO.op rfl (OpE.box rfl hB rfl rfl rfl ?_)
 intro g3
 refine VO.ma rfl rfl rfl rfl ?_
 refine VO.nil ?_
 refine VC.sr ?_
 refine VO.val rfl rfl (OpV.fieldAddrO 0 rfl Tryz.underlying156 rfl rfl Tryz.sizeOf3 rfl) ?_
 refine VO.val rfl rfl (OpV.load_own (i := 0) rfl hB Tryz.isAgg3 rfl rfl rfl (fun h => h)) ?_
 refine VO.val rfl rfl (OpV.gtr rfl rfl rfl) ?_
 refine VO.ma rfl rfl rfl rfl ?_
 refine VO.nil ?_
 refine VC.ret ?_
 exact Exists.intro _ (And.intro (RetV.one Tryz.results121 (ResV.tmp rfl)) (rfl))
set_option maxRecDepth 100000 in
theorem inspect_Positions2 {k : ByteArray} {s : ShS} {n : Int}  :
  Spec Tryz.prog 126 [avS k, eSh s, .at_ 1 (fun _ => avI n)] (fun y => y = avB (decide ((s.1 : Int) < n))) := by
 refine Spec.of_VC Tryz.func126 rfl Tryz.ntmps126 (Nle rfl) fun w A hB => ?_
 have hnew : True := trivial
 refine VC.sr ?_
 refine VO.op rfl (OpE.box rfl hB rfl rfl rfl ?_)
 intro g4
 refine VO.ma rfl rfl rfl rfl ?_
 refine VO.nil ?_
 refine VC.sr ?_
 refine VO.val rfl rfl (OpV.fieldAddrO 0 rfl Tryz.underlying156 rfl rfl Tryz.sizeOf3 rfl) ?_
 refine VO.val rfl rfl (OpV.load_own (i := 0) rfl hB Tryz.isAgg3 rfl rfl rfl (fun h => h)) ?_
 refine VO.val rfl rfl (OpV.load_at rfl hB OutW.no Tryz.isAgg3 rfl rfl) ?_
 refine VO.val rfl rfl (OpV.lss rfl rfl rfl) ?_
 refine VO.ma rfl rfl rfl rfl ?_
 refine VO.nil ?_
 refine VC.ret ?_
 exact Exists.intro _ (And.intro (RetV.one Tryz.results126 (ResV.tmp rfl)) (rfl))
set_option maxRecDepth 100000 in
set_option maxHeartbeats 8000000 in
theorem inspect_GoodBoards {l : List LookS} (hs : SmLk l) :
  SpecN Tryz.prog 33 [avL l] (fun y => y = .tup [avStrs (if lookF l = 0 then gdB l else []), avI (lookF l)]) := by
 refine SpecN.of_VCN Tryz.func33 rfl Tryz.ntmps33 (Nle rfl) fun w A hB => ?_
 have hnew : True := trivial
 refine VC.seq ?_
 have hl := hs.len
 refine VC.region ?_
 refine VO.ma rfl rfl rfl rfl ?_
 refine VO.ma rfl rfl rfl rfl ?_
 refine VO.nil ?_
 refine VC.seq ?_
 refine VC.sr ?_
 refine VO.mv rfl rfl rfl rfl ?_
 refine VO.op rfl (OpE.call rfl hB rfl Tryz.call112 rfl (SpecN.spec (inspect_CheckLooks hs)) ?_)
 rintro _ rfl
 refine VO.ma rfl rfl rfl rfl ?_
 refine VO.nil ?_
 refine VC.sr ?_
 refine VO.mv rfl rfl rfl rfl ?_
 refine VO.val rfl rfl (OpV.neq rfl rfl rfl) ?_
 refine VO.nil ?_
 refine VC.cond rfl (fun h0b => ?_) (fun h0b => ?_)
 ·have h0 := h0b
  try simp only [qqT, qqF, qqN, qqM, qqL, qqE] at h0
  refine VC.sr ?_
  refine VO.mv rfl rfl rfl rfl ?_
  refine VO.ma rfl rfl rfl rfl ?_
  refine VO.ma rfl rfl rfl rfl ?_
  refine VO.nil ?_
  refine VC.ret ?_
  exact Exists.intro _ (And.intro (RetN.two Tryz.results33 (ResN.nilS rfl) (ResN.v rfl)) (by rw [if_neg h0]))
 ·have h0 := h0b
  try simp only [qqT, qqF, qqN, qqM, qqL, qqE] at h0
  refine VC.skip ?_
  refine VC.sr ?_
  refine VO.mv rfl rfl rfl rfl ?_
  refine VO.op rfl (OpE.callH (hp := []) (rest := _) rfl hB rfl Tryz.call118 rfl rfl (inspect_shares (f := fun x => [x.board]) hl Tryz.call119 (fun i => inspect_GoodBoards1) (fun i => by simp)) (List.Perm.refl _) (fun _ h => by obtain ⟨e, he, _⟩ := h; cases he) ?_)
  rintro _ _ ⟨gm, rfl, rfl⟩
  refine VO.ma rfl rfl rfl rfl ?_
  refine VO.nil ?_
  refine VC.sr ?_
  refine VO.mv rfl rfl rfl rfl ?_
  refine VO.op rfl (OpE.callH0 rfl hB rfl Tryz.call120 rfl rfl (specH_fnv (maps_DeleteFunc_sh (l := shV (·.board) l) (pd := fun _ s => decide ((0 : Int) < (s.1 : Int))) (cs := []) (shM_nodup _) Tryz.call121 (fun p _ => inspect_GoodBoards2))) (List.Perm.refl _) (fun _ _ => trivial) ?_)
  rintro _ _ ⟨rfl, l', hl', rfl⟩
  have hq := selK_len (q := fun b => decide ((0 : Int) < (b : Int))) hl'
  refine VO.nil ?_
  refine VC.sr ?_
  refine VO.mv rfl rfl rfl rfl ?_
  refine VO.op rfl (OpE.callH rfl hB rfl Tryz.call123 rfl rfl (maps_Keys_sh (some gm)) (List.Perm.refl _) (fun _ _ => trivial) ?_)
  rintro _ _ ⟨g16, rfl, rfl⟩
  refine VO.op rfl (OpE.callH0 rfl hB rfl Tryz.call122 rfl rfl (slices_Sorted_shX (l := l') (E := eSh) (selK_nd (q := fun b => decide ((0 : Int) < (b : Int))) hl') (selK_sz (q := fun b => decide ((0 : Int) < (b : Int))) hs.board hl') (by omega)) (List.Perm.refl _) (fun _ _ => trivial) ?_)
  rintro _ _ ⟨u17, rfl, rfl⟩
  refine VO.ma rfl rfl rfl rfl ?_
  refine VO.ma rfl rfl rfl rfl ?_
  refine VO.nil ?_
  refine VC.ret ?_
  exact Exists.intro _ (And.intro (RetN.two Tryz.results33 (ResN.rowS (i := 0) (xs := sKeys l') rfl rfl (sKeys_len _).symm) (ResN.v rfl)) (by rw [if_pos (by omega), show lookF l = 0 by omega, show gdB l = sKeys l' from (selK (q := fun b => decide ((0 : Int) < (b : Int))) hl').symm]))
set_option maxRecDepth 100000 in
set_option maxHeartbeats 8000000 in
theorem inspect_Positions {l : List LookS} {n : Int} (hs : SmLk l) :
  SpecN Tryz.prog 34 [avL l, avI n] (fun y => y = .tup [avStrs (if leastE l n = 0 then psN l n else []), avI (leastE l n)]) := by
 refine SpecN.of_VCN Tryz.func34 rfl Tryz.ntmps34 (Nle rfl) fun w A hB => ?_
 have hnew : True := trivial
 refine VC.seq ?_
 have hl := hs.len
 refine VC.region ?_
 refine VO.op rfl (OpE.box rfl hB rfl rfl rfl ?_)
 intro g3
 refine VO.ma rfl rfl rfl rfl ?_
 refine VO.ma rfl rfl rfl rfl ?_
 refine VO.nil ?_
 refine VC.seq ?_
 refine VC.sr ?_
 refine VO.mv rfl rfl rfl rfl ?_
 refine VO.val rfl rfl (OpV.load_own (i := 0) rfl hB Tryz.isAgg3 rfl rfl rfl (fun h => h)) ?_
 refine VO.op rfl (OpE.call rfl hB rfl Tryz.call124 rfl (SpecN.spec (inspect_leastFault hs)) ?_)
 rintro _ rfl
 refine VO.ma rfl rfl rfl rfl ?_
 refine VO.nil ?_
 refine VC.sr ?_
 refine VO.mv rfl rfl rfl rfl ?_
 refine VO.val rfl rfl (OpV.neq rfl rfl rfl) ?_
 refine VO.nil ?_
 refine VC.cond rfl (fun h0b => ?_) (fun h0b => ?_)
 ·have h0 := h0b
  try simp only [qqT, qqF, qqN, qqM, qqL, qqE] at h0
  refine VC.sr ?_
  refine VO.mv rfl rfl rfl rfl ?_
  refine VO.ma rfl rfl rfl rfl ?_
  refine VO.ma rfl rfl rfl rfl ?_
  refine VO.nil ?_
  refine VC.ret ?_
  exact Exists.intro _ (And.intro (RetN.two Tryz.results34 (ResN.nilS rfl) (ResN.v rfl)) (by rw [if_neg h0]))
 ·have h0 := h0b
  try simp only [qqT, qqF, qqN, qqM, qqL, qqE] at h0
  refine VC.le _ (Le.freezeAt (t := 3) (m := 1) (f := fun _ => avI n) (i := 0) rfl rfl (Nat.le_refl _) (fun w Z u h => h.at_congr (g := fun _ => avI n) (fun j hj => by rcases j with _ | j <;> first | rfl | omega)) hnew hB) ?_
  refine VC.skip ?_
  refine VC.sr ?_
  refine VO.mv rfl rfl rfl rfl ?_
  refine VO.op rfl (OpE.callH (hp := []) (rest := _) rfl hB rfl Tryz.call118 rfl rfl (inspect_shares (f := fun x => [x.name]) hl Tryz.call125 (fun i => inspect_Positions1) (fun i => by simp)) (List.Perm.refl _) (fun _ h => by obtain ⟨e, he, _⟩ := h; cases he) ?_)
  rintro _ _ ⟨gm, rfl, rfl⟩
  refine VO.ma rfl rfl rfl rfl ?_
  refine VO.nil ?_
  refine VC.sr ?_
  refine VO.mv rfl rfl rfl rfl ?_
  refine VO.val rfl rfl (OpV.makeFuncF1 rfl rfl) ?_
  refine VO.op rfl (OpE.callH0 rfl hB rfl Tryz.call120 rfl rfl (maps_DeleteFunc_sh (l := shV (·.name) l) (pd := fun _ s => decide ((s.1 : Int) < n)) (cs := [.at_ 1 (fun _ => avI n)]) (shM_nodup _) Tryz.call126 (fun p _ => inspect_Positions2)) (List.Perm.refl _) (fun _ _ => trivial) ?_)
  rintro _ _ ⟨rfl, l', hl', rfl⟩
  have hq := selK_len (q := fun b => decide ((b : Int) < n)) hl'
  refine VO.nil ?_
  refine VC.sr ?_
  refine VO.mv rfl rfl rfl rfl ?_
  refine VO.op rfl (OpE.callH rfl hB rfl Tryz.call123 rfl rfl (maps_Keys_sh (some gm)) (List.Perm.refl _) (fun _ _ => trivial) ?_)
  rintro _ _ ⟨g20, rfl, rfl⟩
  refine VO.op rfl (OpE.callH0 rfl hB rfl Tryz.call122 rfl rfl (slices_Sorted_shX (l := l') (E := eSh) (selK_nd (q := fun b => decide ((b : Int) < n)) hl') (selK_sz (q := fun b => decide ((b : Int) < n)) hs.name hl') (by omega)) (List.Perm.refl _) (fun _ _ => trivial) ?_)
  rintro _ _ ⟨u21, rfl, rfl⟩
  refine VO.ma rfl rfl rfl rfl ?_
  refine VO.ma rfl rfl rfl rfl ?_
  refine VO.nil ?_
  refine VC.ret ?_
  exact Exists.intro _ (And.intro (RetN.two Tryz.results34 (ResN.rowS (i := 0) (xs := sKeys l') rfl rfl (sKeys_len _).symm) (ResN.v rfl)) (by rw [if_pos (by omega), show leastE l n = 0 by omega, show psN l n = sKeys l' from (selK (q := fun b => decide ((b : Int) < n)) hl').symm]))
end Go.Proofs.YtdnlhdilpdeecaaGreatDoor
namespace Go.Proofs.YtdnlhdilpdeecaaGreatDoor
open Go.RowKit
set_option linter.unusedVariables false
set_option linter.unusedSimpArgs false
theorem rowsU_mem {m : RwM} {n : Int} {x : NeedS} (hnd : (m.map (·.1)).Nodup) (h : x ∈ rowsU m n) : x.count = mgetD m x.key 0 := by
 obtain ⟨h1, _⟩ := List.mem_filter.1 h
 obtain ⟨p, hp, rfl⟩ := List.mem_map.1 h1
 obtain ⟨j, hj, rfl⟩ := List.getElem_of_mem hp
 show (m[j]).2 = mgetD m (m[j]).1 0
 rw [mgetD, mget_pos, mpos_nodup m hnd j hj, List.getElem?_eq_getElem hj]; rfl
theorem uK_few {l N : List ByteArray} (h : ∀ x ∈ l, x ∈ N) : (uK l).length ≤ N.length := (uK_srt l).nd.length_le_of_subset fun x hx => h x (uK_mem.1 hx)
theorem rwOut_len (r : List NeedS) : (rwOut r).length = r.length := by simp [rwOut]
theorem rwOut_take {r : List NeedS} {k : Nat} (h : k < r.length) : (rwOut r).take (k + 1) = (rwOut r).take k ++ [⟨(r.getD k default).key, decB (r.getD k default).count.toNat⟩] := by
 rw [List.take_succ_eq_append_getElem (by rw [rwOut_len]; exact h)]
 simp [rwOut, List.getD_eq_getElem?_getD, h]
theorem rwOut_all (r : List NeedS) : (rwOut r).take r.length = rwOut r := List.take_of_length_le (by rw [rwOut_len]; exact Nat.le_refl _)
set_option maxRecDepth 100000 in
theorem inspect_Rows1 {x z : NeedS}  :
  Spec Tryz.prog 128 [avNd x, avNd z] (fun y => y = avI (cRw x z)) := by
 refine Spec.of_VC Tryz.func128 rfl Tryz.ntmps128 (Nle rfl) fun w A hB => ?_
 have hnew : True := trivial
 refine VC.sr ?_
 refine VO.op rfl (OpE.box rfl hB rfl rfl rfl ?_)
 intro g2
 refine VO.op rfl (OpE.box rfl hB rfl rfl rfl ?_)
 intro g3
 refine VO.ma rfl rfl rfl rfl ?_
 refine VO.nil ?_
 refine VC.seq ?_
 refine VC.draw (fun _ => NoB) hB (by kernel_rfl) ?_
 refine VA.take (i := 0) rfl (by kernel_rfl) (by kernel_rfl) (by kernel_rfl) rfl rfl (OpV.fieldAddrO 1 rfl Tryz.underlying166 rfl rfl Tryz.sizeOf3 rfl) ?_
 refine VA.take (i := 1) rfl (by kernel_rfl) (by kernel_rfl) (by kernel_rfl) rfl rfl (OpV.load_own (i := 1) rfl hB Tryz.isAgg3 rfl rfl rfl Wi.not0) ?_
 refine VA.take (i := 2) rfl (by kernel_rfl) (by kernel_rfl) (by kernel_rfl) rfl rfl (OpV.fieldAddrO 1 rfl Tryz.underlying166 rfl rfl Tryz.sizeOf3 rfl) ?_
 refine VA.take (i := 3) rfl (by kernel_rfl) (by kernel_rfl) (by kernel_rfl) rfl rfl (OpV.load_own (i := 0) rfl hB Tryz.isAgg3 rfl rfl rfl Wi.not0) ?_
 refine VA.take (i := 5) rfl (by kernel_rfl) (by kernel_rfl) (by kernel_rfl) rfl rfl (OpV.fieldAddrO 0 rfl Tryz.underlying166 rfl rfl Tryz.sizeOf9 rfl) ?_
 refine VA.take (i := 6) rfl (by kernel_rfl) (by kernel_rfl) (by kernel_rfl) rfl rfl (OpV.load_own (i := 0) rfl hB Tryz.isAgg9 rfl rfl rfl Wi.not0) ?_
 refine VA.take (i := 7) rfl (by kernel_rfl) (by kernel_rfl) (by kernel_rfl) rfl rfl (OpV.fieldAddrO 0 rfl Tryz.underlying166 rfl rfl Tryz.sizeOf9 rfl) ?_
 refine VA.take (i := 8) rfl (by kernel_rfl) (by kernel_rfl) (by kernel_rfl) rfl rfl (OpV.load_own (i := 1) rfl hB Tryz.isAgg9 rfl rfl rfl Wi.not0) ?_
 refine VA.all (rs := [4]) (by kernel_rfl) (by decide) ?_
 refine ⟨⟨_, rfl, .inl rfl, ?_⟩, trivial⟩
 refine OpE.call rfl hB rfl Tryz.call129 rfl (SpecN.spec (cmp_Compare_int)) ?_
 rintro _ rfl
 refine VA.all (rs := [9]) (by kernel_rfl) (by decide) ?_
 refine ⟨⟨_, rfl, .inl rfl, ?_⟩, trivial⟩
 refine OpE.call rfl hB rfl Tryz.call117 rfl (SpecN.spec (strings_Compare_S)) ?_
 rintro _ rfl
 refine VA.all (rs := [10]) (by kernel_rfl) (by decide) ?_
 refine ⟨⟨_, rfl, .inl rfl, ?_⟩, trivial⟩
 refine OpE.buildSlice (zc := #[.int .i64 0, .int .i64 0]) rfl hB rfl Tryz.underlying22 Tryz.sizeOf3 Tryz.zeroValue3 (by decide) (by decide) (by kernel_rfl) rfl rfl ?_
 refine VA.le _ (Le.lits (t := 15) (xs := [cmpI z.count x.count, cmpB x.key z.key]) rfl rfl) ?_
 refine VA.all (rs := [11]) (by kernel_rfl) (by decide) ?_
 refine ⟨⟨_, rfl, .inl rfl, ?_⟩, trivial⟩
 refine OpE.call rfl hB rfl Tryz.call116 rfl (SpecN.spec (cmp_Or_int (by simp))) ?_
 rintro _ rfl
 refine VA.take (i := 12) rfl (by kernel_rfl) (by kernel_rfl) (by kernel_rfl) rfl rfl (OpV.move (.inr rfl) rfl) ?_
 refine VA.done (by kernel_rfl) ?_
 refine VC.ret ?_
 exact Exists.intro _ (And.intro (RetV.one Tryz.results128 (ResV.tmp rfl)) (rfl))
set_option maxRecDepth 100000 in
set_option maxHeartbeats 8000000 in
theorem inspect_Rows {l : List LookS} {n : Int} (hs : SmLk l) (h100 : l.length < 100) (h12 : lookF l = 0 → (uK (l.map (·.name))).length ≤ 12) :
  SpecN Tryz.prog 35 [avL l, avI n] (fun y => y = .tup [avL (if leastE l n = 0 then rowsL l n else []), avI (leastE l n)]) := by
 refine SpecN.of_VCN Tryz.func35 rfl Tryz.ntmps35 (Nle rfl) fun w A hB => ?_
 have hnew : True := trivial
 refine VC.seq ?_
 have hl := hs.len
 have hmn := rwS_nodup l
 have hmb := rwS_bd (l := l) l.length (Nat.le_refl _)
 rw [List.take_length] at hmb
 refine VC.region ?_
 refine VO.ma rfl rfl rfl rfl ?_
 refine VO.ma rfl rfl rfl rfl ?_
 refine VO.nil ?_
 refine VC.seq ?_
 refine VC.sr ?_
 refine VO.mv rfl rfl rfl rfl ?_
 refine VO.mv rfl rfl rfl rfl ?_
 refine VO.op rfl (OpE.call rfl hB rfl Tryz.call124 rfl (SpecN.spec (inspect_leastFault hs)) ?_)
 rintro _ rfl
 refine VO.ma rfl rfl rfl rfl ?_
 refine VO.nil ?_
 refine VC.sr ?_
 refine VO.mv rfl rfl rfl rfl ?_
 refine VO.val rfl rfl (OpV.neq rfl rfl rfl) ?_
 refine VO.nil ?_
 refine VC.cond rfl (fun h0b => ?_) (fun h0b => ?_)
 ·have h0 := h0b
  try simp only [qqT, qqF, qqN, qqM, qqL, qqE] at h0
  refine VC.sr ?_
  refine VO.mv rfl rfl rfl rfl ?_
  refine VO.ma rfl rfl rfl rfl ?_
  refine VO.ma rfl rfl rfl rfl ?_
  refine VO.nil ?_
  refine VC.ret ?_
  exact Exists.intro _ (And.intro (RetN.two Tryz.results35 (ResN.nilE rfl) (ResN.v rfl)) (by rw [if_neg h0]; rfl))
 ·have h0 := h0b
  try simp only [qqT, qqF, qqN, qqM, qqL, qqE] at h0
  have hm12 := rwS_len (h12 (leastE_zero (l := l) (n := n) (by omega)).1)
  refine VC.skip ?_
  refine VC.sr ?_
  refine VO.op rfl (OpE.makeMap (kvS) (eI) rfl hB rfl ?_)
  intro gn
  refine VO.op rfl (OpE.makeMap (kvS) (eI) rfl hB rfl ?_)
  intro gm
  refine VO.ma rfl rfl rfl rfl ?_
  refine VO.ma rfl rfl rfl rfl ?_
  refine VO.nil ?_
  refine VC.seq ?_
  refine VC.sr ?_
  refine VO.mv rfl rfl rfl rfl ?_
  refine VO.val rfl rfl (OpV.len_im rfl Tryz.underlying54 rfl) ?_
  refine VO.mv rfl rfl rfl rfl ?_
  refine VO.nil ?_
  refine VC.block ?_
  refine VC.loopK [(1, _), (7, _), (8, _), (25, _), (26, _)] ⟨rfl, rfl, rfl, rfl, rfl, trivial⟩ ({q : Nat // q ≤ l.length}) (fun (iZ : {q : Nat // q ≤ l.length}) => match iZ with | ⟨q, hq⟩ => [(27, avI (q : Int))]) (fun (iZ : {q : Nat // q ≤ l.length}) => match iZ with | ⟨q, hq⟩ => [mapE kvS gn eI (rwS (l.take q)).1, mapE kvS gm eI (rwS (l.take q)).2]) (fun (iZ : {q : Nat // q ≤ l.length}) => match iZ with | ⟨q, hq⟩ => 0) (fun (iZ : {q : Nat // q ≤ l.length}) => match iZ with | ⟨q, hq⟩ => l.length - q) ⟨0, Nat.zero_le _⟩ (Le.mk hB [0, 1] ⟨rfl, rfl, rfl, rfl, rfl, rfl, trivial⟩ rfl rfl (Nat.le_refl _)) ?_
  rintro ⟨q, hq⟩
  show VC _ _ _ _ ⟨[(27, avI (q : Int))] ++ [(1, _), (7, _), (8, _), (25, _), (26, _)], [mapE kvS gn eI (rwS (l.take q)).1, mapE kvS gm eI (rwS (l.take q)).2], 0⟩
  refine VC.sr ?_
  refine VO.val rfl rfl (OpV.lss rfl rfl rfl) ?_
  refine VO.nil ?_
  refine VC.seq ?_
  refine VC.cond rfl (fun aH1b => ?_) (fun aH1b => ?_)
  ·have aH1 := aH1b
   try simp only [qqT, qqF, qqN, qqM, qqL, qqE] at aH1
   refine VC.skip ?_
   refine VC.seq ?_
   refine VC.block ?_
   refine VC.seq ?_
   have hbd := rwS_bd (l := l) q (by omega) (l.getD q default).name
   refine VC.region ?_
   refine VO.val rfl rfl (OpV.indexAddr_E rfl Tryz.underlying54 Tryz.sizeOf80 rfl rfl rfl (by omega)) ?_
   refine VO.val rfl rfl (OpV.loadK_at rfl hB OutW.no Tryz.isAgg80 Tryz.sizeOf80 rfl rfl) ?_
   refine VO.op rfl (OpE.alloc rfl hB rfl Tryz.zeroValue80 rfl ?_)
   intro g10
   refine VO.op rfl (OpE.store (i := 2) rfl hB rfl Tryz.sizeOf80 rfl rfl rfl rfl rfl rfl (Nle rfl) trivial ?_)
   refine VO.nil ?_
   refine VC.sr ?_
   refine VO.val rfl rfl (OpV.fieldAddrO 4 rfl Tryz.underlying80 rfl rfl Tryz.sizeOf4 rfl) ?_
   refine VO.val rfl rfl (OpV.load_own (i := 2) rfl hB Tryz.isAgg4 rfl rfl rfl (fun h => h)) ?_
   refine VO.nil ?_
   refine VC.cond rfl (fun h2b => ?_) (fun h2b => ?_)
   ·have h2 := h2b
    try simp only [qqT, qqF, qqN, qqM, qqL, qqE] at h2
    refine VC.sr ?_
    refine VO.mv rfl rfl rfl rfl ?_
    refine VO.val rfl rfl (OpV.fieldAddrO 1 rfl Tryz.underlying80 rfl rfl Tryz.sizeOf9 rfl) ?_
    refine VO.val rfl rfl (OpV.load_own (i := 2) rfl hB Tryz.isAgg9 rfl rfl rfl (fun h => h)) ?_
    refine VO.val rfl rfl (OpV.lookup_own (i := 0) rfl hB Tryz.underlying163 (KeyOk.str Tryz.underlying9) Tryz.zeroValue3 rfl (KeyE.v rfl) rfl (fun h => h)) ?_
    refine VO.le _ (Le.recast (t := 36) (y := avI (mgetD (rwS (l.take q)).1 (l.getD q default).name 0)) rfl (fun w Z u h => by unfold mgetD; revert h; cases mget (rwS (l.take q)).1 (l.getD q default).name <;> exact id)) ?_
    refine VO.val rfl rfl (OpV.add rfl rfl rfl (by unfold fits; omega)) ?_
    refine VO.op rfl (OpE.mapUpdate (i := 0) (xx := mgetD (rwS (l.take q)).1 (l.getD q default).name 0 + 1) rfl hB rfl Tryz.underlying163 (KeyOk.str Tryz.underlying9) rfl (KeyE.v rfl) rfl rfl trivial ?_)
    refine VO.nil ?_
    refine VC.region ?_
    refine VO.mv rfl rfl rfl rfl ?_
    refine VO.val rfl rfl (OpV.fieldAddrO 1 rfl Tryz.underlying80 rfl rfl Tryz.sizeOf9 rfl) ?_
    refine VO.val rfl rfl (OpV.load_own (i := 2) rfl hB Tryz.isAgg9 rfl rfl rfl (fun h => h)) ?_
    refine VO.mv rfl rfl rfl rfl ?_
    refine VO.val rfl rfl (OpV.fieldAddrO 1 rfl Tryz.underlying80 rfl rfl Tryz.sizeOf9 rfl) ?_
    refine VO.val rfl rfl (OpV.load_own (i := 2) rfl hB Tryz.isAgg9 rfl rfl rfl (fun h => h)) ?_
    refine VO.val rfl rfl (OpV.lookup_own (i := 1) rfl hB Tryz.underlying163 (KeyOk.str Tryz.underlying9) Tryz.zeroValue3 rfl (KeyE.v rfl) rfl (fun h => h)) ?_
    refine VO.le _ (Le.recast (t := 44) (y := avI (mgetD (rwS (l.take q)).2 (l.getD q default).name 0)) rfl (fun w Z u h => by unfold mgetD; revert h; cases mget (rwS (l.take q)).2 (l.getD q default).name <;> exact id)) ?_
    refine VO.mv rfl rfl rfl rfl ?_
    refine VO.val rfl rfl (OpV.fieldAddrO 1 rfl Tryz.underlying80 rfl rfl Tryz.sizeOf9 rfl) ?_
    refine VO.val rfl rfl (OpV.load_own (i := 2) rfl hB Tryz.isAgg9 rfl rfl rfl (fun h => h)) ?_
    refine VO.val rfl rfl (OpV.lookup_own (i := 0) rfl hB Tryz.underlying163 (KeyOk.str Tryz.underlying9) Tryz.zeroValue3 rfl (KeyE.v rfl) rfl (fun h => h)) ?_
    refine VO.le _ (Le.recast (t := 48) (y := avI (mgetD (rwS (l.take q)).1 (l.getD q default).name 0 + 1)) rfl (fun w Z u h => by
     have e : mgetD (mput (rwS (l.take q)).1 (l.getD q default).name (mgetD (rwS (l.take q)).1 (l.getD q default).name 0 + 1)) (l.getD q default).name 0 = mgetD (rwS (l.take q)).1 (l.getD q default).name 0 + 1 := by rw [mgetD_mput, if_pos rfl]
     rw [← e]; unfold mgetD at h ⊢; revert h; cases mget (mput (rwS (l.take q)).1 (l.getD q default).name ((mget (rwS (l.take q)).1 (l.getD q default).name).getD 0 + 1)) (l.getD q default).name <;> exact id)) ?_
    refine VO.val rfl rfl (OpV.max2 rfl rfl rfl) ?_
    refine VO.op rfl (OpE.mapUpdate (i := 1) (xx := max (mgetD (rwS (l.take q)).2 (l.getD q default).name 0) (mgetD (rwS (l.take q)).1 (l.getD q default).name 0 + 1)) rfl hB rfl Tryz.underlying163 (KeyOk.str Tryz.underlying9) rfl (KeyE.v rfl) rfl rfl trivial ?_)
    refine VO.nil ?_
    refine VC.region ?_
    refine VO.val rfl rfl (OpV.add rfl rfl rfl (by unfold fits; omega)) ?_
    refine VO.mv rfl rfl rfl rfl ?_
    refine VO.nil ?_
    exact Exists.intro (⟨q + 1, by omega⟩) (And.intro (Le.mk hB [0, 1] ⟨rfl, rfl, rfl, rfl, rfl, rfl, trivial⟩ rfl (by dsimp only; rw [rwS_take (by omega)]; unfold rwNow rwMost; first | (rw [if_pos h2, if_pos h2]; rfl) | (rw [if_neg (by rw [h2]; simp), if_neg (by rw [h2]; simp)]; rfl)) (Nat.le_refl _)) (by first | omega | (show _ < _; omega) | (simp only []; omega)))
   ·have h2 := h2b
    try simp only [qqT, qqF, qqN, qqM, qqL, qqE] at h2
    refine VC.region ?_
    refine VO.mv rfl rfl rfl rfl ?_
    refine VO.val rfl rfl (OpV.fieldAddrO 1 rfl Tryz.underlying80 rfl rfl Tryz.sizeOf9 rfl) ?_
    refine VO.val rfl rfl (OpV.load_own (i := 2) rfl hB Tryz.isAgg9 rfl rfl rfl (fun h => h)) ?_
    refine VO.op rfl (OpE.mapUpdate (i := 0) (xx := 0) rfl hB rfl Tryz.underlying163 (KeyOk.str Tryz.underlying9) rfl (KeyE.v rfl) rfl rfl trivial ?_)
    refine VO.nil ?_
    refine VC.region ?_
    refine VO.val rfl rfl (OpV.add rfl rfl rfl (by unfold fits; omega)) ?_
    refine VO.mv rfl rfl rfl rfl ?_
    refine VO.nil ?_
    exact Exists.intro (⟨q + 1, by omega⟩) (And.intro (Le.mk hB [0, 1] ⟨rfl, rfl, rfl, rfl, rfl, rfl, trivial⟩ rfl (by dsimp only; rw [rwS_take (by omega)]; unfold rwNow rwMost; first | (rw [if_pos h2, if_pos h2]; rfl) | (rw [if_neg (by rw [h2]; simp), if_neg (by rw [h2]; simp)]; rfl)) (Nat.le_refl _)) (by first | omega | (show _ < _; omega) | (simp only []; omega)))
  ·have aH1 := aH1b
   try simp only [qqT, qqF, qqN, qqM, qqL, qqE] at aH1
   refine VC.exit ?_
   refine VC.seq ?_
   obtain rfl : q = l.length := by omega
   rw [List.take_length]
   refine VC.le _ (Le.drop 1) ?_
   refine VC.le _ (Le.freezeM (t := 8) (i := 0) hB hnew rfl rfl) ?_
   refine VC.region ?_
   refine VO.ma rfl rfl rfl rfl ?_
   refine VO.nil ?_
   refine VC.seq ?_
   refine VC.sr ?_
   refine VO.mv rfl rfl rfl rfl ?_
   refine VO.op rfl (OpE.rangeM rfl hB rfl Tryz.underlying163 rfl ?_)
   intro g55
   refine VO.nil ?_
   refine VC.block ?_
   refine VC.le _ (Le.nilRow 2 166) ?_
   refine VC.loopK [(1, _), (55, _)] ⟨rfl, rfl, trivial⟩ ({z : Value × List Nat // z.2.Nodup ∧ ∀ j ∈ z.2, j < (rwS l).2.length}) (fun (iZ : {z : Value × List Nat // z.2.Nodup ∧ ∀ j ∈ z.2, j < (rwS l).2.length}) => match iZ with | ⟨⟨u, seen⟩, hsd, hsn⟩ => [(11, .v u)]) (fun (iZ : {z : Value × List Nat // z.2.Nodup ∧ ∀ j ∈ z.2, j < (rwS l).2.length}) => match iZ with | ⟨⟨u, seen⟩, hsd, hsn⟩ => [.it g55 (rwS l).2.length (fun j => kvS ((rwS l).2.getD j default).1) (fun j => eI ((rwS l).2.getD j default).2) seen, .row u (pickR (rwS l).2 n seen).length 2 (rowL (pickR (rwS l).2 n seen)) 166]) (fun (iZ : {z : Value × List Nat // z.2.Nodup ∧ ∀ j ∈ z.2, j < (rwS l).2.length}) => match iZ with | ⟨⟨u, seen⟩, hsd, hsn⟩ => 0) (fun (iZ : {z : Value × List Nat // z.2.Nodup ∧ ∀ j ∈ z.2, j < (rwS l).2.length}) => match iZ with | ⟨⟨u, seen⟩, hsd, hsn⟩ => (rwS l).2.length - seen.length) ⟨(.slice none 0 0, []), List.nodup_nil, fun j hj => by simp at hj⟩ (Le.mk hB [0, 1] ⟨rfl, rfl, rfl, trivial⟩ rfl rfl (Nat.le_refl _)) ?_
   rintro ⟨⟨u, seen⟩, hsd, hsn⟩
   show VC _ _ _ _ ⟨[(11, .v u)] ++ [(1, _), (55, _)], [.it g55 (rwS l).2.length (fun j => kvS ((rwS l).2.getD j default).1) (fun j => eI ((rwS l).2.getD j default).2) seen, .row u (pickR (rwS l).2 n seen).length 2 (rowL (pickR (rwS l).2 n seen)) 166], 0⟩
   simp only at hsd hsn
   have hsl := seen_len hsd hsn
   have hpl := pickR_len (rwS l).2 n seen
   refine VC.sr ?_
   refine VO.op rfl (OpE.nextM (i := 0) rfl hB rfl rfl rfl trivial ?_ ?_)
   ·intro hall56
    refine VO.val rfl rfl (OpV.extract rfl rfl rfl) ?_
    refine VO.nil ?_
    refine VC.seq ?_
    refine VC.condF rfl rfl ?_
    refine VC.exit ?_
    refine VC.sr ?_
    refine VO.mv rfl rfl rfl rfl ?_
    refine VO.op rfl (OpE.callH (rest := [_]) rfl hB rfl Tryz.call127 rfl rfl (specH_fnv (sortFunc_rw (l0 := pickR (rwS l).2 n seen) (F := 128) (cs := []) (c := cRw) (by omega) Tryz.call128 (fun x z => inspect_Rows1) ltRw_trans ltRw_as ltRw_neg)) (List.Perm.swap _ _ _) (fun _ _ => trivial) ?_)
    rintro _ _ ⟨r, hpr, rfl, rfl⟩
    refine VO.nil ?_
    refine VC.seq ?_
    have hrr : rowsR (rwS l).2 n = r := rowsR_one hmn hsd hsn hall56 hpr.1 hpr.2
    have hrl : r.length = (pickR (rwS l).2 n seen).length := hpr.1.length_eq
    have hrb : ∀ k, k < r.length → 0 ≤ (r.getD k default).count ∧ (r.getD k default).count < 100 := fun k hk => by
     have hm : r.getD k default ∈ r := by rw [List.getD_eq_getElem?_getD, List.getElem?_eq_getElem hk]; exact List.getElem_mem hk
     have h5 := rowsU_mem hmn ((rowsR_perm (rwS l).2 n).subset (by rw [hrr]; exact hm))
     have h6 := (hmb (r.getD k default).key).2
     omega
    refine VC.le _ (Le.rowT (t := 11) (i := 0) (xs := r) hB hnew rfl rfl hrl.symm) ?_
    refine VC.le _ (Le.drop 1) ?_
    refine VC.region ?_
    refine VO.ma rfl rfl rfl rfl ?_
    refine VO.nil ?_
    refine VC.seq ?_
    refine VC.sr ?_
    refine VO.mv rfl rfl rfl rfl ?_
    refine VO.val rfl rfl (OpV.len_im rfl Tryz.underlying164 rfl) ?_
    refine VO.mv rfl rfl rfl rfl ?_
    refine VO.nil ?_
    refine VC.block ?_
    refine VC.le _ (Le.nilRow 2 71) ?_
    refine VC.loopK [(72, _), (73, _)] ⟨rfl, rfl, trivial⟩ ({zz : Value × Nat // zz.2 ≤ r.length}) (fun (iZ : {zz : Value × Nat // zz.2 ≤ r.length}) => match iZ with | ⟨⟨u, k⟩, hq2⟩ => [(14, .v u), (74, avI (k : Int))]) (fun (iZ : {zz : Value × Nat // zz.2 ≤ r.length}) => match iZ with | ⟨⟨u, k⟩, hq2⟩ => [.row u k 2 (rowL ((rwOut r).take k)) 71]) (fun (iZ : {zz : Value × Nat // zz.2 ≤ r.length}) => match iZ with | ⟨⟨u, k⟩, hq2⟩ => 0) (fun (iZ : {zz : Value × Nat // zz.2 ≤ r.length}) => match iZ with | ⟨⟨u, k⟩, hq2⟩ => r.length - k) ⟨(.slice none 0 0, 0), Nat.zero_le _⟩ (Le.mk hB [0] ⟨rfl, rfl, rfl, rfl, trivial⟩ rfl rfl (Nat.le_refl _)) ?_
    rintro ⟨⟨u, k⟩, hq2⟩
    show VC _ _ _ _ ⟨[(14, .v u), (74, avI (k : Int))] ++ [(72, _), (73, _)], [.row u k 2 (rowL ((rwOut r).take k)) 71], 0⟩
    simp only at hq2
    refine VC.seq ?_
    skip
    refine VC.region ?_
    refine VO.val rfl rfl (OpV.lss rfl rfl rfl) ?_
    refine VO.nil ?_
    refine VC.seq ?_
    refine VC.cond rfl (fun aH2b => ?_) (fun aH2b => ?_)
    ·have aH2 := aH2b
     try simp only [qqT, qqF, qqN, qqM, qqL, qqE] at aH2
     refine VC.skip ?_
     refine VC.seq ?_
     refine VC.block ?_
     refine VC.sr ?_
     refine VO.val rfl rfl (OpV.indexAddr_E rfl Tryz.underlying164 Tryz.sizeOf166 rfl rfl rfl (by omega)) ?_
     refine VO.val rfl rfl (OpV.loadK_at rfl hB OutW.no Tryz.isAgg166 Tryz.sizeOf166 rfl rfl) ?_
     refine VO.op rfl (OpE.alloc rfl hB rfl Tryz.zeroValue166 rfl ?_)
     intro g16
     refine VO.op rfl (OpE.store (i := 1) rfl hB rfl Tryz.sizeOf166 rfl rfl rfl rfl rfl rfl (Nle rfl) trivial ?_)
     refine VO.nil ?_
     refine VC.draw (fun j b => j = 8 ∧ u.ownBlock = some b) hB (by kernel_rfl) ?_
     refine VA.take (i := 0) rfl (by kernel_rfl) (by kernel_rfl) (by kernel_rfl) rfl rfl (OpV.move (.inl rfl) rfl) ?_
     refine VA.take (i := 1) rfl (by kernel_rfl) (by kernel_rfl) (by kernel_rfl) rfl rfl (OpV.fieldAddrO 0 rfl Tryz.underlying166 rfl rfl Tryz.sizeOf9 rfl) ?_
     refine VA.takeT [2, 6, 7, 8] (i := 2) (by kernel_rfl) (by kernel_rfl) rfl (by kernel_rfl) (by kernel_rfl) (by kernel_rfl) rfl rfl (OpV.load_own (i := 1) rfl hB Tryz.isAgg9 rfl rfl rfl (fun ⟨j, h1, h2, _⟩ => by subst h2; cases h1)) ?_
     refine VA.take (i := 3) rfl (by kernel_rfl) (by kernel_rfl) (by kernel_rfl) rfl rfl (OpV.fieldAddrO 1 rfl Tryz.underlying166 rfl rfl Tryz.sizeOf3 rfl) ?_
     refine VA.takeT [4, 5, 6, 7, 8] (i := 4) (by kernel_rfl) (by kernel_rfl) rfl (by kernel_rfl) (by kernel_rfl) (by kernel_rfl) rfl rfl (OpV.load_own (i := 1) rfl hB Tryz.isAgg3 rfl rfl rfl (fun ⟨j, h1, h2, _⟩ => by subst h2; cases h1)) ?_
     refine VA.le _ (Le.recast (t := 82) (y := avI ((r.getD k default).count.toNat : Int)) rfl (fun w Z u h => by rw [Int.toNat_of_nonneg (hrb k (by omega)).1]; exact h)) ?_
     refine VA.all (rs := [5]) (by kernel_rfl) (by decide) ?_
     refine ⟨⟨_, rfl, .inl rfl, ?_⟩, trivial⟩
     refine OpE.call rfl hB rfl Tryz.call130 rfl (SpecN.spec (itoa_100 (i := (r.getD k default).count.toNat) (by have := hrb k (by omega); omega))) ?_
     rintro _ rfl
     refine VA.take (i := 6) rfl (by kernel_rfl) (by kernel_rfl) (by kernel_rfl) rfl rfl (OpV.build (pls := #[(0, 1), (1, 1)]) rfl Tryz.zeroValue71 Tryz.underlying71 (fun w => by kernel_rfl) rfl rfl) ?_
     refine VA.all (rs := [7]) (by kernel_rfl) (by decide) ?_
     refine ⟨⟨_, rfl, .inl rfl, ?_⟩, trivial⟩
     refine OpE.buildSlice (zc := #[.string ⟨#[]⟩, .string ⟨#[]⟩]) rfl hB rfl Tryz.underlying56 Tryz.sizeOf71 Tryz.zeroValue71 (by decide) (by decide) (by kernel_rfl) rfl rfl ?_
     refine VA.all (rs := [8]) (by kernel_rfl) (by decide) ?_
     refine ⟨⟨_, rfl, .inl rfl, ?_⟩, trivial⟩
     refine OpE.append1 (i := 0) rfl hB rfl Tryz.underlying56 (infoOf Tryz.t71 2 (by kernel_rfl) rfl rfl) rfl (by decide) (by decide) rfl rfl rfl rfl (rowL_snoc _ (⟨(r.getD k default).key, decB (r.getD k default).count.toNat⟩ : PairS)) (by omega) (fun _ h => ⟨rfl, h⟩) ?_
     intro u86
     refine VA.take (i := 9) rfl (by kernel_rfl) (by kernel_rfl) (by kernel_rfl) rfl rfl (OpV.move (.inr rfl) rfl) ?_
     refine VA.done (by kernel_rfl) ?_
     refine VC.region ?_
     refine VO.val rfl rfl (OpV.add rfl rfl rfl (by unfold fits; omega)) ?_
     refine VO.mv rfl rfl rfl rfl ?_
     refine VO.nil ?_
     exact Exists.intro (⟨(u86, k + 1), by show _ ≤ _; omega⟩) (And.intro (Le.mk hB [0] ⟨rfl, rfl, rfl, rfl, trivial⟩ rfl (by dsimp only; rw [rwOut_take (by omega)]; rfl) (Nat.le_refl _)) (by first | omega | (show _ < _; omega) | (simp only []; omega)))
    ·have aH2 := aH2b
     try simp only [qqT, qqF, qqN, qqM, qqL, qqE] at aH2
     obtain rfl : k = r.length := by omega
     rw [rwOut_all]
     refine VC.exit ?_
     refine VC.sr ?_
     refine VO.mv rfl rfl rfl rfl ?_
     refine VO.ma rfl rfl rfl rfl ?_
     refine VO.ma rfl rfl rfl rfl ?_
     refine VO.nil ?_
     refine VC.ret ?_
     exact Exists.intro _ (And.intro (RetN.two Tryz.results35 (ResN.rowT (i := 0) (xs := rwOut r) rfl rfl (rwOut_len r).symm (flat_pairs _)) (ResN.v rfl)) (by rw [if_pos (by omega), show leastE l n = 0 by omega, rowsL, hrr]))
   ·intro j56 hj56 hn56
    have hsd2 : (j56 :: seen).Nodup := List.nodup_cons.2 ⟨hn56, hsd⟩
    have hsn2 : ∀ j ∈ j56 :: seen, j < (rwS l).2.length := fun j hj => (List.mem_cons.1 hj).elim (fun e => e ▸ hj56) (hsn j)
    have hsl2 := seen_len hsd2 hsn2
    have hsl3 : (j56 :: seen).length = seen.length + 1 := rfl
    refine VO.val rfl rfl (OpV.extract rfl rfl rfl) ?_
    refine VO.nil ?_
    refine VC.seq ?_
    refine VC.condT rfl rfl ?_
    refine VC.skip ?_
    refine VC.block ?_
    refine VC.sr ?_
    refine VO.val rfl rfl (OpV.entryM (i := 0) rfl hB rfl rfl) ?_
    refine VO.val rfl rfl (OpV.extract rfl rfl rfl) ?_
    refine VO.val rfl rfl (OpV.extract rfl rfl rfl) ?_
    refine VO.ma rfl rfl rfl rfl ?_
    refine VO.ma rfl rfl rfl rfl ?_
    refine VO.nil ?_
    refine VC.sr ?_
    refine VO.mv rfl rfl rfl rfl ?_
    refine VO.mv rfl rfl rfl rfl ?_
    refine VO.val rfl rfl (OpV.geq rfl rfl rfl) ?_
    refine VO.nil ?_
    refine VC.cond rfl (fun h4b => ?_) (fun h4b => ?_)
    ·have h4 := h4b
     try simp only [qqT, qqF, qqN, qqM, qqL, qqE] at h4
     refine VC.region ?_
     refine VO.mv rfl rfl rfl rfl ?_
     refine VO.mv rfl rfl rfl rfl ?_
     refine VO.mv rfl rfl rfl rfl ?_
     refine VO.val rfl rfl (OpV.build (pls := #[(0, 1), (1, 1)]) rfl Tryz.zeroValue166 Tryz.underlying166 (fun w => by kernel_rfl) rfl rfl) ?_
     refine VO.op rfl (OpE.buildSlice (zc := #[.string ⟨#[]⟩, .int .i64 0]) rfl hB rfl Tryz.underlying164 Tryz.sizeOf166 Tryz.zeroValue166 (by decide) (by decide) (by kernel_rfl) rfl rfl ?_)
     refine VO.op rfl (OpE.append1 (i := 1) rfl hB rfl Tryz.underlying164 (infoOf Tryz.t166 2 (by kernel_rfl) rfl rfl) rfl (by decide) (by decide) rfl rfl rfl rfl (rowL_snoc _ (ndOf ((rwS l).2.getD j56 default))) (by omega) (fun _ _ => trivial) ?_)
     intro u69
     refine VO.ma rfl rfl rfl rfl ?_
     refine VO.nil ?_
     exact Exists.intro (⟨(u69, j56 :: seen), hsd2, hsn2⟩) (And.intro (Le.mk hB [0, 1] ⟨rfl, rfl, rfl, trivial⟩ rfl (by dsimp only; first | (rw [pickR_yes h4, List.length_append]; rfl) | (rw [pickR_no (by omega)]; rfl)) (Nat.le_refl _)) (by first | omega | (show _ < _; omega) | (simp only []; omega)))
    ·have h4 := h4b
     try simp only [qqT, qqF, qqN, qqM, qqL, qqE] at h4
     refine VC.skip ?_
     exact Exists.intro (⟨(u, j56 :: seen), hsd2, hsn2⟩) (And.intro (Le.mk hB [0, 1] ⟨rfl, rfl, rfl, trivial⟩ rfl (by dsimp only; first | (rw [pickR_yes h4, List.length_append]; rfl) | (rw [pickR_no (by omega)]; rfl)) (Nat.le_refl _)) (by first | omega | (show _ < _; omega) | (simp only []; omega)))
end Go.Proofs.YtdnlhdilpdeecaaGreatDoor
namespace Go.Proofs.YtdnlhdilpdeecaaGreatDoor
open Go.RowKit
set_option linter.unusedVariables false
set_option linter.unusedSimpArgs false
def Zt (w : World) (A : Nat → Prop) (hp' : List Ent) (w' : World) : Nat → Prop := fun b => b < w'.heap.size ∧ ¬ BlkL hp' b ∧ (b < w.heap.size → A b)
def SpecTO (P : Program) (T : World → Nat → Prop) (str : Nat → Prop) (F : FuncId) (xs : List AV) (c : Nat) (G : AV → List Ent → Prop) : Prop :=
 ∀ (w : World) (A : Nat → Prop) (us : Array Value) (k : Nat), Args w A xs us → T w k → (∀ b, str b → ¬ A b) → k + c ≤ 1000000 →
  Calls P F us w fun e w' => ∃ y v hp', G y hp' ∧ e = .returned v ∧ Apart hp' ∧ Rep w' (Zt w A hp' w') y v ∧ (∀ e ∈ hp', EntR w' (Zt w A hp' w') e) ∧ (∀ b, BlkL hp' b → w.heap.size ≤ b) ∧ Chg str w w' ∧ T w' (k + c)
theorem SpecTO.mono {P : Program} {T : World → Nat → Prop} {str : Nat → Prop} {F : FuncId} {xs : List AV} {c : Nat} {G G' : AV → List Ent → Prop} (h : SpecTO P T str F xs c G) (hg : ∀ y hp', G y hp' → G' y hp') : SpecTO P T str F xs c G' := fun w A us k h1 h2 h3 h4 =>
 (h w A us k h1 h2 h3 h4).mono fun e w' ⟨y, v, hp', k1, k2⟩ => ⟨y, v, hp', hg _ _ k1, k2⟩
theorem SpecTO.of_VC {P : Program} {F : FuncId} {fn : Func} {c : Code} (hf : P.funcs[F]? = some fn) (hb : fn.body = some c) {xs : List AV} {G : AV → List Ent → Prop} {nt n : Nat} (hn : fn.ntmps = nt) (hle : xs.length ≤ nt) {T : World → Nat → Prop} {str low : Nat → Prop}
  (hok : ∀ w A k, T w k → (B1 w A nt str low T).Ok)
  (h : ∀ w A k, k + n ≤ 1000000 → (B1 w A nt str low T).Ok → VC P (B1 w A nt str low T) c (retS P fn fun y s => G y s.hp ∧ s.k ≤ k + n) ⟨slots0 0 xs, [], k⟩) : SpecTO P T str F xs n G := fun w A us k ha hT hSA hk =>
 (calls_of_VC (k := k) hf hb (B := B1 w A nt str low T) rfl hn.symm ha hSA hT (by omega) (h w A k hk (hok w A k hT))).mono fun e w' ⟨y, v, s, a, h1, h2, h3, h4⟩ => by
  have hB := hok w A k hT
  have hZ : ∀ b, Zn (B1 w A nt str low T) s.hp w' b → Zt w A s.hp w' b := fun b hb => ⟨hb.1, fun ⟨p, hp1, hp2⟩ => hb.2.1 p hp1 hp2, fun hl => (hb.2.2 hl).1.resolve_right (hb.2.2 hl).2⟩
  refine ⟨y, v, s.hp, h1.1, h2, h4.nodup, h3.keep fun b hb _ => ⟨rfl, hZ b hb⟩, fun p hp' => (h4.blocks p hp').keep (fun b hb _ => ⟨rfl, hZ b hb⟩) fun g _ => rfl, fun b ⟨p, hp1, hp2⟩ => ?_, h4.chg, hB.up h4.res h1.2⟩
  obtain ⟨q1, q2⟩ := h4.own p hp1 b hp2
  rcases Nat.lt_or_ge b w.heap.size with hl | hl
  ·exact absurd (hB.str b (q2 hl)).1 q1
  ·exact hl
section
variable {P : Program} {B : Bs} {W : Nat → Prop} {s : St'} {o : Oper} {K : St' → Prop} {a : Act} {w w' : World}
theorem R.afterT (hB : B.Ok) (hr : R B s a w) {hp' : List Ent} {k' : Nat} (hap : Apart hp') (hE : ∀ e ∈ hp', EntR w' (Zt w (Zo B s.hp) hp' w') e) (hnw : ∀ b, BlkL hp' b → w.heap.size ≤ b) (hc : Chg B.str w w') (hT : B.T w' k') :
  R B ⟨s.sl, s.hp ++ hp', k'⟩ a w' ∧ ∀ b, Zt w (Zo B s.hp) hp' w' b → Zn B (s.hp ++ hp') w' b := by
 have hw0 := hr.chg.size
 have hns : ∀ b, Zn B s.hp w b → ¬ B.str b := fun b hb hs => by
  obtain ⟨h1, h2⟩ := hB.str b hs
  exact (hb.2.2 (hB.low b h1)).2 hs
 have hz : ∀ b, Zn B s.hp w b → b < w.heap.size → w'.heap[b]? = w.heap[b]? ∧ Zn B (s.hp ++ hp') w' b := fun b hb hl => by
  refine ⟨hc.block b hl (hns b hb), Nat.lt_of_lt_of_le hl hc.size, fun p hp1 hpb => ?_, hb.2.2⟩
  rcases List.mem_append.1 hp1 with h | h
  ·exact hb.2.1 p h hpb
  ·have := hnw b ⟨p, h, hpb⟩; omega
 have hz2 : ∀ b, Zt w (Zo B s.hp) hp' w' b → Zn B (s.hp ++ hp') w' b := fun b hb => by
  refine ⟨hb.1, fun p hp1 hpb => ?_, fun h0 => (hb.2.2 (Nat.lt_of_lt_of_le h0 hw0)).2 h0⟩
  rcases List.mem_append.1 hp1 with h | h
  ·exact (hb.2.2 (hr.lt p h b hpb)).1 p h hpb
  ·exact hb.2.1 ⟨p, h, hpb⟩
 refine ⟨⟨fun t x hx => (hr.slots t x hx).keep hz, hr.size, hr.defs, fun p hp1 => ?_, ?_, hr.chg.trans (hc.mono fun b _ h => (hB.str b h).2), fun p hp1 g hg => ?_, hT⟩, hz2⟩
 ·rcases List.mem_append.1 hp1 with h | h
  ·exact (hr.blocks p h).keep hz fun g hg => hc.block g (hr.lt p h g hg) fun hs => (hr.own p h g hg).1 (hB.str g hs).1
  ·exact (hE p h).keep (fun b hb _ => ⟨rfl, hz2 b hb⟩) fun g _ => rfl
 ·unfold Apart
  rw [List.pairwise_append]
  exact ⟨hr.nodup, hap, fun p hp1 q hq g hpg hqg => by have := hr.lt p hp1 g hpg; have := hnw g ⟨q, hq, hqg⟩; omega⟩
 ·rcases List.mem_append.1 hp1 with h | h
  ·exact hr.own p h g hg
  ·have := hnw g ⟨p, h, hg⟩
   exact ⟨fun hlow => by have := hB.low g hlow; omega, fun h0 => by omega⟩
theorem OpE.callTO {f : FuncId} {args : Array Operand} {ts : Array TypeId} {xs : List AV} {G : AV → List Ent → Prop} {c : Nat} (kk : Nat) (hkk : s.k = kk) (ho : o.op = .call { callee := .value (.func f), args := args, argTypes := ts }) (hB : B.Ok) (hd : okd B.nt o.dst = true)
  (hcall : ∀ us w, (callFunc f us).run P w = .ok (.enter f us) w) (hxs : evL s args.toList = some xs) (hspec : SpecTO P B.T B.str f xs c G) (hk : kk + c ≤ 1000000) (hK : ∀ y hp', G y hp' → K ((St'.mk s.sl (s.hp ++ hp') (kk + c)).put o.dst y)) : OpE P B W s o K := by
 subst hkk
 intro a w hr next Qx hn
 have h1 := hspec w (Zo B s.hp) _ s.k (evL_args hr hxs) hr.res (fun b hb hA => (hA.2 (hB.low b (hB.str b hb).1)).2 hb) hk
 unfold Oper.wp
 simp only [execOp, ho, resolve, Act.eval, Deferred.ofValue, Sem.run_bind, Sem.run_pure, Result.andThen_ok, invoke, hcall, Array.empty_append, Array.append_empty]
 simp only [Oper.upon]
 refine h1.mono fun e w' hret => ?_
 obtain ⟨y, v, hp', h2, rfl, h3, h4, h5, h6, h7, h8⟩ := hret
 obtain ⟨hr', hz⟩ := hr.afterT hB h3 h5 h6 h7 h8
 exact hn _ _ _ (hK y hp' h2) (hr'.put _ hd _ _ (h4.keep fun b hb hl => ⟨rfl, hz b hb⟩)) (h7.mono fun b _ h => .inl h)
end
end Go.Proofs.YtdnlhdilpdeecaaGreatDoor
namespace Go.Proofs.YtdnlhdilpdeecaaGreatDoor
open Go.RowKit
set_option linter.unusedVariables false
set_option linter.unusedSimpArgs false
theorem encL_small (n : Int) : (Utf8.encode n).size ≤ 4 := by
 unfold Utf8.encode
 simp only
 repeat' split
 all_goals simp [ByteArray.size]
theorem getSet_lk {α : Type} {xs : List α} {q : Nat} {x d : α} (h : q < xs.length) : (xs.set q x).getD q d = x := by simp [h]
def nm3 : List ByteArray := [⟨#[99, 49]⟩, ⟨#[99, 50]⟩, ⟨#[114, 49]⟩]
def bdK (i : Nat) : ByteArray := ⟨#[98]⟩ ++ Utf8.encode (49 + (i : Int))
theorem bdK_size (i : Nat) : (bdK i).size ≤ 1000 := by
 have := encL_small (49 + (i : Int))
 show (⟨#[98]⟩ ++ Utf8.encode (49 + (i : Int)) : ByteArray).size ≤ 1000
 rw [ByteArray.size_append]; have h1 : (⟨#[98]⟩ : ByteArray).size = 1 := rfl; omega
theorem nm3_size (q : Nat) : (nm3.getD q ByteArray.empty).size ≤ 1000 := by
 match q with
 | 0 => decide
 | 1 => decide
 | 2 => decide
 | q + 3 => simp [nm3]
def BdG (m : Nat) (s : ByteArray) : Prop := s.size ≤ 1000 ∧ (keyF s = true → ∃ i, i < m ∧ s = bdK i)
def NmG (s : ByteArray) : Prop := s.size ≤ 1000 ∧ (keyF s = true → s ∈ nm3)
def SmG (s : ByteArray) : Prop := s.size ≤ 1000
def AtG (m : Nat) (v : Int) : Prop := (-1 ≤ v ∧ v ≤ 345686400000) ∧ (0 ≤ v → v ≤ 345686399999 → v ≤ 10 * (m : Int))
theorem AtG.mono {m n : Nat} {v : Int} (h : AtG m v) (hn : m ≤ n) : AtG n v := ⟨h.1, fun h1 h2 => by have := h.2 h1 h2; omega⟩
theorem AtG.neg {m : Nat} : AtG m (-1) := ⟨by omega, fun h => by omega⟩
theorem AtG.end_ {m : Nat} : AtG m 345686400000 := ⟨by omega, fun _ h => by omega⟩
structure LkG (m : Nat) (x : LookS) : Prop where
 board : BdG m x.board
 name : NmG x.name
 at_ : AtG m x.at_
 machine : SmG x.machine
 nozzle : SmG x.nozzle
 reel : SmG x.reel
theorem BdG.mono {m n : Nat} {s : ByteArray} (h : BdG m s) (hn : m ≤ n) : BdG n s := ⟨h.1, fun hk => by obtain ⟨i, hi, e⟩ := h.2 hk; exact ⟨i, by omega, e⟩⟩
theorem LkG.mono {m n : Nat} {x : LookS} (h : LkG m x) (hn : m ≤ n) : LkG n x := ⟨h.board.mono hn, h.name, h.at_.mono hn, h.machine, h.nozzle, h.reel⟩
theorem keyF_none : keyF ⟨#[]⟩ = false := by decide +kernel
theorem keyF_A : keyF ⟨#[65]⟩ = false := by decide +kernel
theorem BdG.none (m : Nat) : BdG m ⟨#[]⟩ := ⟨by decide, fun h => by rw [keyF_none] at h; cases h⟩
theorem BdG.b1 {m : Nat} (h : 0 < m) : BdG m ⟨#[98, 49]⟩ := ⟨by decide, fun _ => ⟨0, h, by decide +kernel⟩⟩
theorem BdG.k {m i : Nat} (h : i < m) : BdG m (bdK i) := ⟨bdK_size i, fun _ => ⟨i, h, rfl⟩⟩
theorem NmG.none : NmG ⟨#[65]⟩ := ⟨by decide, fun h => by rw [keyF_A] at h; cases h⟩
theorem NmG.c1 : NmG ⟨#[99, 49]⟩ := ⟨by decide, fun _ => by simp [nm3]⟩
theorem NmG.k (q : Nat) : NmG (nm3.getD q ByteArray.empty) := ⟨nm3_size q, fun h => by
 match q with
 | 0 => simp [nm3]
 | 1 => simp [nm3]
 | 2 => simp [nm3]
 | q + 3 =>
  have e : nm3.getD (q + 3) ByteArray.empty = ⟨#[]⟩ := by simp [nm3]; rfl
  rw [e, keyF_none] at h; cases h⟩
theorem LkG.zero : LkG 0 default := ⟨BdG.none 0, ⟨by decide, fun h => by have : keyF ⟨#[]⟩ = true := h; rw [keyF_none] at this; cases this⟩, ⟨by decide, by decide⟩, by unfold SmG; decide, by unfold SmG; decide, by unfold SmG; decide⟩
theorem LkG.getD {m : Nat} {l : List LookS} (h : ∀ x ∈ l, LkG m x) (i : Nat) : LkG m (l.getD i default) := by
 rw [List.getD_eq_getElem?_getD]
 cases hi : l[i]? with
 | none => exact LkG.zero.mono (Nat.zero_le _)
 | some x => exact h x (List.mem_of_getElem? hi)
theorem LkG.sm {m : Nat} {l : List LookS} (h : ∀ x ∈ l, LkG m x) (hl : l.length ≤ 1000) : SmLk l := ⟨by omega, fun i => by have := (LkG.getD h i).board.1; omega, fun i => by have := (LkG.getD h i).name.1; omega, fun i => by have := (LkG.getD h i).machine; unfold SmG at this; omega, fun i => by have := (LkG.getD h i).nozzle; unfold SmG at this; omega, fun i => by have := (LkG.getD h i).reel; unfold SmG at this; omega⟩
theorem LkG.snoc {m : Nat} {l : List LookS} (h : ∀ x ∈ l, LkG m x) {y : LookS} (hy : LkG m y) : ∀ x ∈ l ++ [y], LkG m x := fun x hx => by
 rcases List.mem_append.1 hx with hx | hx
 ·exact h x hx
 ·simp at hx; subst hx; exact hy
theorem LkG.setD {m : Nat} {l : List LookS} (h : ∀ x ∈ l, LkG m x) (q : Nat) {y : LookS} (hy : LkG m y) : ∀ x ∈ l.set q y, LkG m x := fun x hx => by
 rcases List.mem_or_eq_of_mem_set hx with h' | rfl
 ·exact h x h'
 ·exact hy
theorem lk_upd {a b : LookS} {k : Nat} (h0 : k = 0 ∨ a.board = b.board) (h1 : k = 1 ∨ a.name = b.name) (h2 : k = 2 ∨ a.at_ = b.at_) (h3 : k = 3 ∨ a.verdict = b.verdict) (h4 : k = 4 ∨ a.bad = b.bad) (h5 : k = 5 ∨ a.machine = b.machine) (h6 : k = 6 ∨ a.nozzle = b.nozzle) (h7 : k = 7 ∨ a.reel = b.reel) : ∀ i, i < 8 → i ≠ k → Sxc.cell a i = Sxc.cell b i := fun i hi hn => by
 match i, hi with
 | 0, _ => show avS a.board = avS b.board; rw [h0.resolve_left fun h => hn h.symm]
 | 1, _ => show avS a.name = avS b.name; rw [h1.resolve_left fun h => hn h.symm]
 | 2, _ => show avI a.at_ = avI b.at_; rw [h2.resolve_left fun h => hn h.symm]
 | 3, _ => show avI a.verdict = avI b.verdict; rw [h3.resolve_left fun h => hn h.symm]
 | 4, _ => show avB a.bad = avB b.bad; rw [h4.resolve_left fun h => hn h.symm]
 | 5, _ => show avS a.machine = avS b.machine; rw [h5.resolve_left fun h => hn h.symm]
 | 6, _ => show avS a.nozzle = avS b.nozzle; rw [h6.resolve_left fun h => hn h.symm]
 | 7, _ => show avS a.reel = avS b.reel; rw [h7.resolve_left fun h => hn h.symm]
def AllG (Pr : ByteArray → Prop) : List AV → Prop
 | [] => True
 | x :: r => (∃ i : ByteArray, Pr i ∧ x = avS i) ∧ AllG Pr r
theorem AllG.nil {Pr : ByteArray → Prop} : AllG Pr [] := trivial
theorem AllG.cons {Pr : ByteArray → Prop} {i : ByteArray} {r : List AV} (h : Pr i) (hr : AllG Pr r) : AllG Pr (avS i :: r) := ⟨⟨i, h, rfl⟩, hr⟩
theorem AllG.get {Pr : ByteArray → Prop} : ∀ {l : List AV} {q : Nat}, AllG Pr l → q < l.length → ∃ i : ByteArray, Pr i ∧ l.getD q .any = avS i
 | [], q, _, h => by simp at h
 | x :: r, 0, h, _ => by simpa using h.1
 | x :: r, q + 1, h, hq => by simpa using AllG.get h.2 (by simpa using hq)
set_option maxRecDepth 100000 in
theorem some_G {p : Nat} {L : List Int} {n : Nat} {l : List AV} (Pr : ByteArray → Prop) (hn : l.length = n) (h0 : 0 < n) (h1 : n ≤ 1000) (hall : AllG Pr l) :
  SpecT Tryz.prog (TT p L) (fun b => b = p) 82 [sp p, .im n 1 fun j => l.getD j .any] 1 (fun y => ∃ r : ByteArray, Pr r ∧ y = avS r) := by
 refine SpecT.of_VC Tryz.func82 rfl Tryz.ntmps82 (Nle rfl) (low := (fun b => b ≤ p)) (fun w A k h => h.ok) fun w A k hk hB => ?_
 have hnew : True := trivial
 refine VC.sr ?_
 refine VO.ma rfl rfl rfl rfl ?_
 refine VO.nil ?_
 refine VC.sr ?_
 refine VO.mv rfl rfl rfl rfl ?_
 refine VO.mv rfl rfl rfl rfl ?_
 refine VO.mv rfl rfl rfl rfl ?_
 refine VO.val rfl rfl (OpV.len_im rfl Tryz.underlying29 rfl) ?_
 refine VO.op rfl (OpE.callT' (k) rfl rfl hB rfl Tryz.call80 rfl ((next_T (by omega))) (by omega) ?_)
 rintro _ ⟨r9, hr9, rfl⟩
 refine VO.val rfl rfl (OpV.indexAddr_1 rfl Tryz.underlying29 Tryz.sizeOf9 rfl rfl (Int.toNat_of_nonneg (by omega)).symm (by omega)) ?_
 refine VO.val rfl rfl (OpV.load_at rfl hB OutW.no Tryz.isAgg9 rfl rfl) ?_
 refine VO.ma rfl rfl rfl rfl ?_
 refine VO.nil ?_
 refine VC.ret ?_
 exact Exists.intro _ (And.intro (RetV.one Tryz.results82 (ResV.tmp rfl)) (And.intro (hall.get (by omega)) ((show k + 1 ≤ k + 1 by omega))))
def AllJ (Pr : Int → Prop) : List AV → Prop
 | [] => True
 | x :: r => (∃ i : Int, Pr i ∧ x = avI i) ∧ AllJ Pr r
theorem AllJ.nil {Pr : Int → Prop} : AllJ Pr [] := trivial
theorem AllJ.cons {Pr : Int → Prop} {i : Int} {r : List AV} (h : Pr i) (hr : AllJ Pr r) : AllJ Pr (avI i :: r) := ⟨⟨i, h, rfl⟩, hr⟩
theorem AllJ.get {Pr : Int → Prop} : ∀ {l : List AV} {q : Nat}, AllJ Pr l → q < l.length → ∃ i : Int, Pr i ∧ l.getD q .any = avI i
 | [], q, _, h => by simp at h
 | x :: r, 0, h, _ => by simpa using h.1
 | x :: r, q + 1, h, hq => by simpa using AllJ.get h.2 (by simpa using hq)
set_option maxRecDepth 100000 in
theorem pick_J {p : Nat} {L : List Int} {n : Nat} {l : List AV} (Pr : Int → Prop) (hn : l.length = n) (h0 : 0 < n) (h1 : n ≤ 1000) (hall : AllJ Pr l) :
  SpecT Tryz.prog (TT p L) (fun b => b = p) 14 [sp p, .im n 1 fun j => l.getD j .any] 1 (fun y => ∃ r : Int, Pr r ∧ y = avI r) := by
 refine SpecT.of_VC Tryz.func14 rfl Tryz.ntmps14 (Nle rfl) (low := (fun b => b ≤ p)) (fun w A k h => h.ok) fun w A k hk hB => ?_
 have hnew : True := trivial
 refine VC.sr ?_
 refine VO.ma rfl rfl rfl rfl ?_
 refine VO.nil ?_
 refine VC.sr ?_
 refine VO.mv rfl rfl rfl rfl ?_
 refine VO.mv rfl rfl rfl rfl ?_
 refine VO.mv rfl rfl rfl rfl ?_
 refine VO.val rfl rfl (OpV.len_im rfl Tryz.underlying22 rfl) ?_
 refine VO.op rfl (OpE.callT' (k) rfl rfl hB rfl Tryz.call80 rfl ((next_T (by omega))) (by omega) ?_)
 rintro _ ⟨r9, hr9, rfl⟩
 refine VO.val rfl rfl (OpV.indexAddr_1 rfl Tryz.underlying22 Tryz.sizeOf3 rfl rfl (Int.toNat_of_nonneg (by omega)).symm (by omega)) ?_
 refine VO.val rfl rfl (OpV.load_at rfl hB OutW.no Tryz.isAgg3 rfl rfl) ?_
 refine VO.ma rfl rfl rfl rfl ?_
 refine VO.nil ?_
 refine VC.ret ?_
 exact Exists.intro _ (And.intro (RetV.one Tryz.results14 (ResV.tmp rfl)) (And.intro (hall.get (by omega)) ((show k + 1 ≤ k + 1 by omega))))
set_option maxRecDepth 100000 in
theorem odd_L {p : Nat} {L : List Int}  :
  SpecT Tryz.prog (TT p L) (fun b => b = p) 111 [sp p, avI 1, avI 5] 2 (fun y => ∃ r : Int, y = avI r) := by
 refine SpecT.of_VC Tryz.func111 rfl Tryz.ntmps111 (Nle rfl) (low := (fun b => b ≤ p)) (fun w A k h => h.ok) fun w A k hk hB => ?_
 have hnew : True := trivial
 refine VC.sr ?_
 refine VO.ma rfl rfl rfl rfl ?_
 refine VO.nil ?_
 refine VC.seq ?_
 refine VC.sr ?_
 refine VO.mv rfl rfl rfl rfl ?_
 refine VO.op rfl (OpE.callT' (k) rfl rfl hB rfl Tryz.call15 rfl ((flip_T (by omega))) (by omega) ?_)
 rintro _ ⟨r8, rfl⟩
 refine VO.nil ?_
 refine VC.cond rfl (fun aH1b => ?_) (fun aH1b => ?_)
 ·have aH1 := aH1b
  try simp only [qqT, qqF, qqN, qqM, qqL, qqE] at aH1
  refine VC.sr ?_
  refine VO.mv rfl rfl rfl rfl ?_
  refine VO.mv rfl rfl rfl rfl ?_
  refine VO.val rfl rfl (OpV.sub rfl rfl rfl (by unfold fits; omega)) ?_
  refine VO.mv rfl rfl rfl rfl ?_
  refine VO.val rfl rfl (OpV.add rfl rfl rfl (by unfold fits; omega)) ?_
  refine VO.mv rfl rfl rfl rfl ?_
  refine VO.mv rfl rfl rfl rfl ?_
  refine VO.op rfl (OpE.buildSlice (zc := #[.int .i64 0, .int .i64 0, .int .i64 0, .int .i64 0, .int .i64 0, .int .i64 0]) rfl hB rfl Tryz.underlying22 Tryz.sizeOf3 Tryz.zeroValue3 (by decide) (by decide) (by kernel_rfl) rfl rfl ?_)
  refine VO.op rfl (OpE.callT' (k + 1) rfl rfl hB rfl Tryz.call14 rfl (pick_X (by rfl) (by decide) (by decide) (by repeat (first | exact AllX.nil | refine AllX.cons ?_))) (by omega) ?_)
  rintro _ ⟨r17, rfl⟩
  refine VO.ma rfl rfl rfl rfl ?_
  refine VO.nil ?_
  refine VC.ret ?_
  exact Exists.intro _ (And.intro (RetV.one Tryz.results111 (ResV.tmp rfl)) (And.intro (⟨_, rfl⟩) ((show k + 1 + 1 ≤ k + 2 by omega))))
 ·have aH1 := aH1b
  try simp only [qqT, qqF, qqN, qqM, qqL, qqE] at aH1
  refine VC.skip ?_
  refine VC.sr ?_
  refine VO.mv rfl rfl rfl rfl ?_
  refine VO.mv rfl rfl rfl rfl ?_
  refine VO.mv rfl rfl rfl rfl ?_
  refine VO.op rfl (OpE.callT' (k + 1) rfl rfl hB rfl Tryz.call10 rfl ((range_T (by omega) (by omega) (by omega))) (by omega) ?_)
  rintro _ ⟨r21, hr21, rfl⟩
  refine VO.ma rfl rfl rfl rfl ?_
  refine VO.nil ?_
  refine VC.ret ?_
  exact Exists.intro _ (And.intro (RetV.one Tryz.results111 (ResV.tmp rfl)) (And.intro (⟨_, rfl⟩) ((show k + 1 + 1 ≤ k + 2 by omega))))
abbrev xL (l : List LookS) (m : Nat) : LookS := l.getD m default
abbrev pL (g o : Nat) : AV := .v (.pointer (some ⟨g, o, none⟩))
abbrev iL (n : Nat) (cs : List AV) : AV := .im n 1 (fun j => cs.getD j .any)
end Go.Proofs.YtdnlhdilpdeecaaGreatDoor
namespace Go.Proofs.YtdnlhdilpdeecaaGreatDoor
open Go.RowKit
set_option linter.unusedVariables false
set_option linter.unusedSimpArgs false
theorem badF_take {f : LookS → ByteArray} {l : List LookS} {q : Nat} (h : q < l.length) (k : ByteArray) : badF f (l.take (q + 1)) k = badF f (l.take q) k + if (decide (f (l.getD q default) = k) && (l.getD q default).bad) = true then 1 else 0 := by
 unfold badF
 rw [badN_filter, badN_filter]
 exact cntL_take h
theorem rwS_le {l : List LookS} : ∀ q, q ≤ l.length → ∀ k, mgetD (rwS (l.take q)).1 k 0 ≤ (badF (·.name) (l.take q) k : Int) ∧ mgetD (rwS (l.take q)).2 k 0 ≤ (badF (·.name) (l.take q) k : Int)
 | 0, _, k => by
  rw [List.take_zero]
  have : rwS [] = ([], []) := rfl
  rw [this]
  simp only [mgetD_nil]
  omega
 | q + 1, h, k => by
  have ih := rwS_le (l := l) q (by omega) k
  rw [rwS_take (by omega), badF_take (by omega)]
  simp only
  by_cases e : k = (l.getD q default).name
  ·subst e
   rw [decide_eq_true rfl, Bool.true_and]
   constructor
   ·unfold rwNow
    rw [mgetD_mput, if_pos rfl]
    by_cases hb : (l.getD q default).bad = true
    ·rw [if_pos hb, if_pos hb]; omega
    ·rw [if_neg hb, if_neg hb]; omega
   ·unfold rwMost
    by_cases hb : (l.getD q default).bad = true
    ·rw [if_pos hb, if_pos hb, mgetD_mput, if_pos rfl]; omega
    ·rw [if_neg hb, if_neg hb]; omega
  ·constructor
   ·unfold rwNow
    rw [mgetD_mput, if_neg e]
    omega
   ·unfold rwMost
    split
    ·rw [mgetD_mput, if_neg e]; omega
    ·omega
theorem rwS_key {l : List LookS} {n : Int} {x : NeedS} (h : x ∈ rowsU (rwS l).2 n) : x.key ∈ l.map (·.name) := by
 obtain ⟨h1, _⟩ := List.mem_filter.1 h
 obtain ⟨p, hp, rfl⟩ := List.mem_map.1 h1
 have h2 : p.1 ∈ (rwS l).2.map (·.1) := List.mem_map_of_mem hp
 rcases rwS_sub l ([], []) p.1 h2 with h | h
 ·cases h
 ·exact h
structure RowOk (l : List LookS) (n : Int) (x : NeedS) : Prop where
 least : n ≤ x.count
 most : x.count ≤ l.length
 pos : 0 ≤ x.count
 out : x.key ∈ psN l n
theorem row_ok {l : List LookS} {n : Int} {x : NeedS} (h : x ∈ rowsR (rwS l).2 n) : RowOk l n x := by
 have hU := (rowsR_perm _ _).subset h
 have hc := rowsU_mem (rwS_nodup l) hU
 have h1 := (rwS_le (l := l) l.length (Nat.le_refl _) x.key).2
 have h2 := (rwS_bd (l := l) l.length (Nat.le_refl _) x.key).2
 rw [List.take_length] at h1 h2
 have hn : n ≤ x.count := of_decide_eq_true (List.mem_filter.1 hU).2
 refine ⟨hn, by omega, by omega, List.mem_filter.2 ⟨uK_mem.2 (rwS_key hU), ?_⟩⟩
 rw [decide_eq_false (by omega)]; rfl
theorem rwOut_get {r : List NeedS} {k : Nat} (h : k < r.length) : (rwOut r).getD k default = ⟨(r.getD k default).key, decB (r.getD k default).count.toNat⟩ := by
 simp [rwOut, List.getD_eq_getElem?_getD, h]
theorem rowsL_ok {l : List LookS} {n : Int} {k : Nat} (h : k < (rowsL l n).length) : ∃ i : Nat, ((rowsL l n).getD k default).value = decB i ∧ n ≤ i ∧ i ≤ l.length ∧ ((rowsL l n).getD k default).name ∈ psN l n := by
 unfold rowsL at h ⊢
 rw [rwOut_len] at h
 rw [rwOut_get h]
 have hx : (rowsR (rwS l).2 n).getD k default ∈ rowsR (rwS l).2 n := by
  rw [List.getD_eq_getElem?_getD, List.getElem?_eq_getElem h]; exact List.getElem_mem h
 have ho := row_ok hx
 have h1 := ho.least
 have h2 := ho.most
 have h3 := ho.pos
 exact ⟨_, rfl, by omega, by omega, ho.out⟩
theorem psN_mono {l : List LookS} {n : Int} {k : ByteArray} (h : k ∈ psN l (n + 1)) : k ∈ psN l n := by
 obtain ⟨h1, h2⟩ := List.mem_filter.1 h
 refine List.mem_filter.2 ⟨h1, ?_⟩
 rw [Bool.not_eq_true'] at h2 ⊢
 have h3 := of_decide_eq_false h2
 exact decide_eq_false (by omega)
theorem gdB_bad {l : List LookS} {x : LookS} (hx : x ∈ l) (hb : x.bad = true) : x.board ∉ gdB l := fun h => by
 obtain ⟨_, h2⟩ := List.mem_filter.1 h
 rw [Bool.not_eq_true'] at h2
 have h3 := of_decide_eq_false h2
 apply h3
 have : x ∈ (l.filter fun y => decide (y.board = x.board)).filter fun y => y.bad := List.mem_filter.2 ⟨List.mem_filter.2 ⟨hx, decide_eq_true rfl⟩, hb⟩
 have h4 := List.length_pos_of_mem this
 have h5 : 0 < badF (·.board) l x.board := h4
 omega
theorem names_few {m : Nat} {l : List LookS} (hk : ∀ x ∈ l, LkG m x) (h0 : lookF l = 0) : (uK (l.map (·.name))).length ≤ 12 := by
 have h := uK_few (l := l.map (·.name)) (N := nm3) (fun x hx => by
  obtain ⟨y, hy, rfl⟩ := List.mem_map.1 hx
  obtain ⟨i, hi, rfl⟩ := List.getElem_of_mem hy
  have h1 := (lookE_zero ((lookOk h0).all i hi)).keys
  have h2 := (hk _ hy).name
  have e : l.getD i default = l[i] := by rw [List.getD_eq_getElem?_getD, List.getElem?_eq_getElem hi]; rfl
  rw [e] at h1
  refine h2.2 ?_
  simp [lkStrs] at h1
  exact h1.2.1)
 have h3 : nm3.length = 3 := rfl
 omega
end Go.Proofs.YtdnlhdilpdeecaaGreatDoor
namespace Go.Proofs.YtdnlhdilpdeecaaGreatDoor
open Go.RowKit
set_option linter.unusedVariables false
set_option linter.unusedSimpArgs false
abbrev byL (p : ByteArray) : List UInt8 := p.data.toList
end Go.Proofs.YtdnlhdilpdeecaaGreatDoor
namespace Go.Proofs.YtdnlhdilpdeecaaGreatDoor
open Go.RowKit
set_option linter.unusedVariables false
set_option linter.unusedSimpArgs false
section
variable {P : Program} {s : St'}
theorem ResN.boxS {t i n g cap : Nat} {xs : List ByteArray} {ty : TypeId} {tot : Nat} (h : look s.sl t = some (.v (.slice (some ⟨g, 0, none⟩) n cap))) (hi : s.hp[i]? = some (.box g ⟨strsL xs, ty, tot⟩)) (hn : n = xs.length) (hcap : n ≤ cap) (hm : cap ≤ maxLen) : ResN P s (.tmp t) (avStrs xs) :=
 ResN.box h hi (by show n * 1 ≤ (strsL xs).length; rw [strsL_len]; omega) hcap hm (flat_strs xs) fun w Z u h => Rep.strs hn h
end
end Go.Proofs.YtdnlhdilpdeecaaGreatDoor
namespace Go.Proofs.YtdnlhdilpdeecaaGreatDoor
open Go.RowKit
set_option linter.unusedVariables false
set_option linter.unusedSimpArgs false
section
variable {P : Program} {B : Bs} {W : Nat → Prop} {s : St'} {o : Oper}
end
theorem strconv_Atoi_S {d : ByteArray} {n : Int} (hl : d.size ≤ 18) (h : Lib.atoi (byL d) = some n) : SpecN Tryz.prog 50 [avS d] (fun y => y = .tup [avI n, .v .nilIface]) := by
 intro w us ha
 rw [args1 ha]
 refine (Tryz.strconv_Atoi d n hl h w).mono ?_
 rintro e w' ⟨rfl, t, rfl⟩
 refine ⟨_, _, rfl, rfl, .tup _ _ rfl fun q hq => ?_, .ofBelowN (Lib.bytesWorld_below w _ t), trivial⟩
 match q, hq with
 | 0, _ => exact .v _
 | 1, _ => exact .v _
end Go.Proofs.YtdnlhdilpdeecaaGreatDoor
namespace Go.Proofs.YtdnlhdilpdeecaaGreatDoor
open Go.RowKit
set_option linter.unusedVariables false
set_option linter.unusedSimpArgs false


set_option maxRecDepth 100000 in
theorem slices_IndexFunc_str {xs : List ByteArray} {F : FuncId} {cs : List AV} {p : ByteArray → Bool} (hl : xs.length ≤ 1000000000) (hcall : ∀ us w, (callFunc F us).run Tryz.prog w = .ok (.enter F us) w) (hF : ∀ x, Spec Tryz.prog F ([avS x] ++ cs) (fun y => y = avB (p x))) :
  SpecN Tryz.prog 150 [avStrs xs, .fn F cs] (fun y => y = avI (fidx p xs)) := by
 refine SpecN.of_VCN Tryz.func150 rfl Tryz.ntmps150 (Nle rfl) fun w A hB => ?_
 have hnew : True := trivial
 refine VC.sr ?_
 refine VO.ma rfl rfl rfl rfl ?_
 refine VO.nil ?_
 refine VC.seq ?_
 refine VC.sr ?_
 refine VO.mv rfl rfl rfl rfl ?_
 refine VO.val rfl rfl (OpV.len_im rfl Tryz.underlying29 rfl) ?_
 refine VO.mv rfl rfl rfl rfl ?_
 refine VO.nil ?_
 refine VC.block ?_
 refine VC.loopK [(0, _), (1, _), (7, _)] ⟨rfl, rfl, rfl, trivial⟩ ({q : Nat // q ≤ xs.length ∧ ∀ j, j < q → p (xs.getD j ByteArray.empty) = false}) (fun (iZ : {q : Nat // q ≤ xs.length ∧ ∀ j, j < q → p (xs.getD j ByteArray.empty) = false}) => match iZ with | ⟨q, hq, hn⟩ => [(8, avI (q : Int))]) (fun (iZ : {q : Nat // q ≤ xs.length ∧ ∀ j, j < q → p (xs.getD j ByteArray.empty) = false}) => match iZ with | ⟨q, hq, hn⟩ => []) (fun (iZ : {q : Nat // q ≤ xs.length ∧ ∀ j, j < q → p (xs.getD j ByteArray.empty) = false}) => match iZ with | ⟨q, hq, hn⟩ => 0) (fun (iZ : {q : Nat // q ≤ xs.length ∧ ∀ j, j < q → p (xs.getD j ByteArray.empty) = false}) => match iZ with | ⟨q, hq, hn⟩ => xs.length - q) ⟨0, Nat.zero_le _, fun j hj => absurd hj (Nat.not_lt_zero j)⟩ (Le.mk hB [] ⟨rfl, rfl, rfl, rfl, trivial⟩ rfl rfl (Nat.le_refl _)) ?_
 rintro ⟨q, hq, hn⟩
 show VC _ _ _ _ ⟨[(8, avI (q : Int))] ++ [(0, _), (1, _), (7, _)], [], 0⟩
 refine VC.sr ?_
 refine VO.val rfl rfl (OpV.lss rfl rfl rfl) ?_
 refine VO.nil ?_
 refine VC.seq ?_
 refine VC.cond rfl (fun aH1b => ?_) (fun aH1b => ?_)
 ·have aH1 := aH1b
  try simp only [qqT, qqF, qqN, qqM, qqL, qqE] at aH1
  refine VC.skip ?_
  refine VC.seq ?_
  refine VC.block ?_
  refine VC.sr ?_
  refine VO.mv rfl rfl rfl rfl ?_
  refine VO.ma rfl rfl rfl rfl ?_
  refine VO.nil ?_
  refine VC.sr ?_
  refine VO.mv rfl rfl rfl rfl ?_
  refine VO.mv rfl rfl rfl rfl ?_
  refine VO.mv rfl rfl rfl rfl ?_
  refine VO.val rfl rfl (OpV.indexAddr_1 rfl Tryz.underlying29 Tryz.sizeOf9 rfl rfl rfl (by omega)) ?_
  refine VO.val rfl rfl (OpV.load_at rfl hB OutW.no Tryz.isAgg9 rfl rfl) ?_
  refine VO.op rfl (OpE.callF rfl hB rfl hcall rfl rfl (hF _) ?_)
  rintro _ rfl
  refine VO.nil ?_
  refine VC.cond rfl (fun aH2b => ?_) (fun aH2b => ?_)
  ·have aH2 := aH2b
   try simp only [qqT, qqF, qqN, qqM, qqL, qqE] at aH2
   refine VC.sr ?_
   refine VO.mv rfl rfl rfl rfl ?_
   refine VO.ma rfl rfl rfl rfl ?_
   refine VO.nil ?_
   refine VC.ret ?_
   exact Exists.intro _ (And.intro (RetN.one Tryz.results150 (ResN.v rfl)) (by first | (rw [fidx_found (d := ByteArray.empty) (q := q) (by omega) hn (by assumption)]) | (rw [fidx_none (d := ByteArray.empty) (fun j hj => hn j (by omega))])))
  ·have aH2 := aH2b
   try simp only [qqT, qqF, qqN, qqM, qqL, qqE] at aH2
   refine VC.skip ?_
   refine VC.region ?_
   refine VO.val rfl rfl (OpV.add rfl rfl rfl (by unfold fits; omega)) ?_
   refine VO.mv rfl rfl rfl rfl ?_
   refine VO.nil ?_
   exact Exists.intro (⟨q + 1, by omega, lt_succ_cases hn ((by assumption))⟩) (And.intro (Le.mk hB [] ⟨rfl, rfl, rfl, rfl, trivial⟩ rfl rfl (Nat.le_refl _)) (by first | omega | (show _ < _; omega) | (simp only []; omega)))
 ·have aH1 := aH1b
  try simp only [qqT, qqF, qqN, qqM, qqL, qqE] at aH1
  refine VC.exit ?_
  refine VC.sr ?_
  refine VO.ma rfl rfl rfl rfl ?_
  refine VO.nil ?_
  refine VC.ret ?_
  exact Exists.intro _ (And.intro (RetN.one Tryz.results150 (ResN.v rfl)) (by first | (rw [fidx_found (d := ByteArray.empty) (q := q) (by omega) hn (by assumption)]) | (rw [fidx_none (d := ByteArray.empty) (fun j hj => hn j (by omega))])))
set_option maxRecDepth 100000 in
theorem slices_ContainsFunc_str {xs : List ByteArray} {F : FuncId} {cs : List AV} {p : ByteArray → Bool} (hl : xs.length ≤ 1000000000) (hcall : ∀ us w, (callFunc F us).run Tryz.prog w = .ok (.enter F us) w) (hF : ∀ x, Spec Tryz.prog F ([avS x] ++ cs) (fun y => y = avB (p x))) :
  SpecN Tryz.prog 47 [avStrs xs, .fn F cs] (fun y => y = avB (xs.any p)) := by
 refine SpecN.of_VCN Tryz.func47 rfl Tryz.ntmps47 (Nle rfl) fun w A hB => ?_
 have hnew : True := trivial
 refine VC.sr ?_
 refine VO.ma rfl rfl rfl rfl ?_
 refine VO.nil ?_
 refine VC.sr ?_
 refine VO.mv rfl rfl rfl rfl ?_
 refine VO.mv rfl rfl rfl rfl ?_
 refine VO.op rfl (OpE.call rfl hB rfl Tryz.call150 rfl (SpecN.spec (slices_IndexFunc_str hl hcall hF)) ?_)
 rintro _ rfl
 refine VO.val rfl rfl (OpV.geq rfl rfl rfl) ?_
 refine VO.ma rfl rfl rfl rfl ?_
 refine VO.nil ?_
 refine VC.ret ?_
 exact Exists.intro _ (And.intro (RetN.one Tryz.results47 (ResN.v rfl)) (by rw [← fidx_any]))
end Go.Proofs.YtdnlhdilpdeecaaGreatDoor
namespace Go.Proofs.YtdnlhdilpdeecaaGreatDoor
open Go.RowKit
set_option linter.unusedVariables false
set_option linter.unusedSimpArgs false
section
variable {m : Nat} {l : List LookS} (hok : ∀ x ∈ l, LkG m x) (i : Nat)
include hok
theorem lk_s1 {r r' : ByteArray} (h1 : BdG m r) (h2 : NmG r') : ∀ x ∈ (l.set i ({l.getD i default with board := r} : LookS)).set i ({l.getD i default with board := r, name := r'} : LookS), LkG m x :=
 have hx := LkG.getD hok i
 LkG.setD (LkG.setD hok i (y := {l.getD i default with board := r}) ⟨h1, hx.name, hx.at_, hx.machine, hx.nozzle, hx.reel⟩) i (y := {l.getD i default with board := r, name := r'}) ⟨h1, h2, hx.at_, hx.machine, hx.nozzle, hx.reel⟩
theorem lk_s2 {r r' : Int} (h1 : AtG m r) : ∀ x ∈ (l.set i ({l.getD i default with at_ := r} : LookS)).set i ({l.getD i default with at_ := r, verdict := r'} : LookS), LkG m x :=
 have hx := LkG.getD hok i
 LkG.setD (LkG.setD hok i (y := {l.getD i default with at_ := r}) ⟨hx.board, hx.name, h1, hx.machine, hx.nozzle, hx.reel⟩) i (y := {l.getD i default with at_ := r, verdict := r'}) ⟨hx.board, hx.name, h1, hx.machine, hx.nozzle, hx.reel⟩
theorem lk_s3 {r r' r2 : ByteArray} (h1 : r.size ≤ 1000) (h2 : r'.size ≤ 1000) (h3 : r2.size ≤ 1000) : ∀ x ∈ ((l.set i ({l.getD i default with machine := r} : LookS)).set i ({l.getD i default with machine := r, nozzle := r'} : LookS)).set i ({l.getD i default with machine := r, nozzle := r', reel := r2} : LookS), LkG m x :=
 have hx := LkG.getD hok i
 LkG.setD (LkG.setD (LkG.setD hok i (y := {l.getD i default with machine := r}) ⟨hx.board, hx.name, hx.at_, h1, hx.nozzle, hx.reel⟩) i (y := {l.getD i default with machine := r, nozzle := r'}) ⟨hx.board, hx.name, hx.at_, h1, h2, hx.reel⟩) i (y := {l.getD i default with machine := r, nozzle := r', reel := r2}) ⟨hx.board, hx.name, hx.at_, h1, h2, h3⟩
end
set_option maxRecDepth 100000 in
set_option maxHeartbeats 40000000 in
theorem looks_O {p : Nat} {L : List Int} {m : Nat} (hm : m ≤ 6) :
    SpecTO Tryz.prog (TT p L) (fun b => b = p) 31 [sp p, avI (m : Int)] 200 (fun y hp' => ∃ (l : List LookS) (u : Value), (l.length ≤ 3 * m ∧ ∀ x ∈ l, LkG m x) ∧ y = .v u ∧ hp' = [.row u l.length 8 (rowL l) 80]) := by
  refine SpecTO.of_VC Tryz.func31 rfl Tryz.ntmps31 (Nle rfl) (low := (fun b => b ≤ p)) (fun w A k h => h.ok) fun w A k hk hB => ?_
  have hnew : True := trivial
  refine VC.sr ?_
  refine VO.ma rfl rfl rfl rfl ?_
  refine VO.nil ?_
  refine VC.sr ?_
  refine VO.ma rfl rfl rfl rfl ?_
  refine VO.nil ?_
  refine VC.sr ?_
  refine VO.ma rfl rfl rfl rfl ?_
  refine VO.nil ?_
  refine VC.seq ?_
  refine VC.sr ?_
  refine VO.mv rfl rfl rfl rfl ?_
  refine VO.mv rfl rfl rfl rfl ?_
  refine VO.nil ?_
  refine VC.block ?_
  refine VC.le _ (Le.nilRow 8 80) ?_
  refine VC.loopK [(0, _), (11, _)] ⟨rfl, rfl, trivial⟩ ({t : (Value × Int) × List LookS × Nat // t.2.2 ≤ m ∧ t.2.1.length ≤ 3 * t.2.2 ∧ (0 ≤ t.1.2 ∧ t.1.2 ≤ 10 * t.2.2) ∧ ∀ x ∈ t.2.1, LkG m x}) (fun (iZ : {t : (Value × Int) × List LookS × Nat // t.2.2 ≤ m ∧ t.2.1.length ≤ 3 * t.2.2 ∧ (0 ≤ t.1.2 ∧ t.1.2 ≤ 10 * t.2.2) ∧ ∀ x ∈ t.2.1, LkG m x}) => match iZ with | ⟨⟨⟨u, atv⟩, l, q⟩, hq, hl, hat, hok⟩ => [(5, .v u), (6, avI atv), (12, avI (q : Int))]) (fun (iZ : {t : (Value × Int) × List LookS × Nat // t.2.2 ≤ m ∧ t.2.1.length ≤ 3 * t.2.2 ∧ (0 ≤ t.1.2 ∧ t.1.2 ≤ 10 * t.2.2) ∧ ∀ x ∈ t.2.1, LkG m x}) => match iZ with | ⟨⟨⟨u, atv⟩, l, q⟩, hq, hl, hat, hok⟩ => [.row u l.length 8 (rowL l) 80]) (fun (iZ : {t : (Value × Int) × List LookS × Nat // t.2.2 ≤ m ∧ t.2.1.length ≤ 3 * t.2.2 ∧ (0 ≤ t.1.2 ∧ t.1.2 ≤ 10 * t.2.2) ∧ ∀ x ∈ t.2.1, LkG m x}) => match iZ with | ⟨⟨⟨u, atv⟩, l, q⟩, hq, hl, hat, hok⟩ => k + 20 * q) (fun (iZ : {t : (Value × Int) × List LookS × Nat // t.2.2 ≤ m ∧ t.2.1.length ≤ 3 * t.2.2 ∧ (0 ≤ t.1.2 ∧ t.1.2 ≤ 10 * t.2.2) ∧ ∀ x ∈ t.2.1, LkG m x}) => match iZ with | ⟨⟨⟨u, atv⟩, l, q⟩, hq, hl, hat, hok⟩ => m - q) ⟨((.slice none 0 0, 0), [], 0), Nat.zero_le _, Nat.zero_le _, ⟨Int.le_refl _, Int.le_refl _⟩, fun x h => by simp at h⟩ (Le.mk hB [0] ⟨rfl, rfl, rfl, rfl, rfl, trivial⟩ rfl rfl (show k ≤ k + 20 * 0 by omega)) ?_
  rintro ⟨⟨⟨u, atv⟩, l, q⟩, hq, hl, hat, hok⟩
  show VC _ _ _ _ ⟨[(5, .v u), (6, avI atv), (12, avI (q : Int))] ++ [(0, _), (11, _)], [.row u l.length 8 (rowL l) 80], k + 20 * q⟩
  simp only at hq hl hat hok
  refine VC.sr ?_
  refine VO.val rfl rfl (OpV.lss rfl rfl rfl) ?_
  refine VO.nil ?_
  refine VC.seq ?_
  refine VC.cond rfl (fun aH1b => ?_) (fun aH1b => ?_)
  · have aH1 := aH1b
    try simp only [qqT, qqF, qqN, qqM, qqL, qqE] at aH1
    refine VC.skip ?_
    refine VC.seq ?_
    refine VC.block ?_
    refine VC.sr ?_
    refine VO.mv rfl rfl rfl rfl ?_
    refine VO.ma rfl rfl rfl rfl ?_
    refine VO.nil ?_
    refine VC.sr ?_
    refine VO.mv rfl rfl rfl rfl ?_
    refine VO.mv rfl rfl rfl rfl ?_
    refine VO.op rfl (OpE.buildSlice (zc := #[.int .i64 0, .int .i64 0, .int .i64 0, .int .i64 0]) rfl hB rfl Tryz.underlying22 Tryz.sizeOf3 Tryz.zeroValue3 (by decide) (by decide) (by kernel_rfl) rfl rfl ?_)
    refine VO.op rfl (OpE.callT' (k + 20 * q) rfl rfl hB rfl Tryz.call14 rfl ((pick_T 0 10 (by rfl) (by decide) (by decide) (by repeat (first | exact AllI.nil | refine AllI.cons (by omega) ?_)))) (by omega) ?_)
    rintro _ ⟨r18, hr18, rfl⟩
    refine VO.val rfl rfl (OpV.add rfl rfl rfl (by unfold fits; omega)) ?_
    refine VO.ma rfl rfl rfl rfl ?_
    refine VO.nil ?_
    refine VC.sr ?_
    refine VO.op rfl (OpE.buildSlice (zc := #[.string ⟨#[]⟩, .string ⟨#[]⟩, .string ⟨#[]⟩]) rfl hB rfl Tryz.underlying29 Tryz.sizeOf9 Tryz.zeroValue9 (by decide) (by decide) (by kernel_rfl) rfl rfl ?_)
    refine VO.le _ (Le.recast (t := 20) (y := avStrs nm3) rfl (fun w Z u h => Rep.strs (xs := nm3) rfl h)) ?_
    refine VO.val rfl rfl (OpV.len_im rfl Tryz.underlying29 rfl) ?_
    refine VO.mv rfl rfl rfl rfl ?_
    refine VO.nil ?_
    refine VC.block ?_
    refine VC.loopK [(0, _), (6, _), (7, _), (11, _), (12, _), (20, _), (21, _)] ⟨rfl, rfl, rfl, rfl, rfl, rfl, rfl, trivial⟩ ({t : Value × List LookS × Nat // t.2.2 ≤ 3 ∧ t.2.1.length ≤ 3 * q + t.2.2 ∧ ∀ x ∈ t.2.1, LkG m x}) (fun (iZ : {t : Value × List LookS × Nat // t.2.2 ≤ 3 ∧ t.2.1.length ≤ 3 * q + t.2.2 ∧ ∀ x ∈ t.2.1, LkG m x}) => match iZ with | ⟨⟨u, l, r⟩, hr, hl, hok⟩ => [(5, .v u), (22, avI (r : Int))]) (fun (iZ : {t : Value × List LookS × Nat // t.2.2 ≤ 3 ∧ t.2.1.length ≤ 3 * q + t.2.2 ∧ ∀ x ∈ t.2.1, LkG m x}) => match iZ with | ⟨⟨u, l, r⟩, hr, hl, hok⟩ => [.row u l.length 8 (rowL l) 80]) (fun (iZ : {t : Value × List LookS × Nat // t.2.2 ≤ 3 ∧ t.2.1.length ≤ 3 * q + t.2.2 ∧ ∀ x ∈ t.2.1, LkG m x}) => match iZ with | ⟨⟨u, l, r⟩, hr, hl, hok⟩ => k + 20 * q + 1 + 6 * r) (fun (iZ : {t : Value × List LookS × Nat // t.2.2 ≤ 3 ∧ t.2.1.length ≤ 3 * q + t.2.2 ∧ ∀ x ∈ t.2.1, LkG m x}) => match iZ with | ⟨⟨u, l, r⟩, hr, hl, hok⟩ => 3 - r) ⟨(u, l, 0), Nat.zero_le _, by show l.length ≤ 3 * q + 0; omega, hok⟩ (Le.mk hB [0] ⟨rfl, rfl, rfl, rfl, rfl, rfl, rfl, rfl, rfl, trivial⟩ rfl rfl (show k + 20 * q + 1 ≤ k + 20 * q + 1 + 6 * 0 by omega)) ?_
    rintro ⟨⟨u, l, r⟩, hr, hl, hok⟩
    show VC _ _ _ _ ⟨[(5, .v u), (22, avI (r : Int))] ++ [(0, _), (6, _), (7, _), (11, _), (12, _), (20, _), (21, _)], [.row u l.length 8 (rowL l) 80], k + 20 * q + 1 + 6 * r⟩
    simp only at hr hl hok
    have hn3 : nm3.length = 3 := rfl
    refine VC.sr ?_
    refine VO.val rfl rfl (OpV.lss rfl rfl rfl) ?_
    refine VO.nil ?_
    refine VC.seq ?_
    refine VC.cond rfl (fun aH2b => ?_) (fun aH2b => ?_)
    · have aH2 := aH2b
      try simp only [qqT, qqF, qqN, qqM, qqL, qqE] at aH2
      refine VC.skip ?_
      refine VC.seq ?_
      refine VC.block ?_
      refine VC.sr ?_
      refine VO.val rfl rfl (OpV.indexAddr_1 rfl Tryz.underlying29 Tryz.sizeOf9 rfl rfl rfl (by show r < 3; omega)) ?_
      refine VO.val rfl rfl (OpV.load_at rfl hB OutW.no Tryz.isAgg9 rfl rfl) ?_
      refine VO.ma rfl rfl rfl rfl ?_
      refine VO.nil ?_
      refine VC.seq ?_
      refine VC.sr ?_
      refine VO.mv rfl rfl rfl rfl ?_
      refine VO.op rfl (OpE.callT' (k + 20 * q + 1 + 6 * r) rfl rfl hB rfl Tryz.call15 rfl ((flip_T (by omega))) (by omega) ?_)
      rintro _ ⟨r27, rfl⟩
      refine VO.nil ?_
      refine VC.cond rfl (fun aH3b => ?_) (fun aH3b => ?_)
      · have aH3 := aH3b
        try simp only [qqT, qqF, qqN, qqM, qqL, qqE] at aH3
        refine VC.exit ?_
        refine VC.region ?_
        refine VO.val rfl rfl (OpV.add rfl rfl rfl (by unfold fits; omega)) ?_
        refine VO.mv rfl rfl rfl rfl ?_
        refine VO.nil ?_
        exact Exists.intro (⟨(u, l, r + 1), by show r + 1 ≤ 3; omega, by show l.length ≤ 3 * q + (r + 1); omega, hok⟩) (And.intro (Le.mk hB [0] ⟨rfl, rfl, rfl, rfl, rfl, rfl, rfl, rfl, rfl, trivial⟩ rfl (by dsimp only; first | rfl | (rw [List.length_append]; rfl)) (show k + 20 * q + 1 + 6 * r + 1 ≤ k + 20 * q + 1 + 6 * (r + 1) by omega)) (by first | omega | (show _ < _; omega) | (simp only []; omega)))
      · have aH3 := aH3b
        try simp only [qqT, qqF, qqN, qqM, qqL, qqE] at aH3
        refine VC.skip ?_
        refine VC.region ?_
        refine VO.mv rfl rfl rfl rfl ?_
        refine VO.mv rfl rfl rfl rfl ?_
        refine VO.val rfl rfl (OpV.add rfl rfl rfl (by unfold fits; omega)) ?_
        refine VO.val rfl rfl (OpV.conv rfl Tryz.underlying3 Tryz.underlying21 rfl (IntWalk.i32_in _ (by omega))) ?_
        refine VO.val rfl rfl (OpV.convStr rfl Tryz.underlying21 Tryz.underlying9 rfl) ?_
        refine VO.val rfl rfl (OpV.sadd rfl rfl rfl (by have := encL_small (49 + (q : Int)); have h1 : (⟨#[98]⟩ : ByteArray).size = 1 := rfl; omega)) ?_
        refine VO.mv rfl rfl rfl rfl ?_
        refine VO.mv rfl rfl rfl rfl ?_
        refine VO.mv rfl rfl rfl rfl ?_
        refine VO.op rfl (OpE.buildSlice (zc := #[.int .i64 0, .int .i64 0, .int .i64 0, .int .i64 0, .int .i64 0, .int .i64 0, .int .i64 0]) rfl hB rfl Tryz.underlying22 Tryz.sizeOf3 Tryz.zeroValue3 (by decide) (by decide) (by kernel_rfl) rfl rfl ?_)
        refine VO.op rfl (OpE.callT' (k + 20 * q + 1 + 6 * r + 1) rfl rfl hB rfl Tryz.call14 rfl (pick_X (by rfl) (by decide) (by decide) (by repeat (first | exact AllX.nil | refine AllX.cons ?_))) (by omega) ?_)
        rintro _ ⟨r38, rfl⟩
        refine VO.mv rfl rfl rfl rfl ?_
        refine VO.op rfl (OpE.callT' (k + 20 * q + 1 + 6 * r + 1 + 1) rfl rfl hB rfl Tryz.call15 rfl ((flip_T (by omega))) (by omega) ?_)
        rintro _ ⟨r40, rfl⟩
        refine VO.mv rfl rfl rfl rfl ?_
        refine VO.op rfl (OpE.buildSlice (zc := #[.string ⟨#[]⟩, .string ⟨#[]⟩]) rfl hB rfl Tryz.underlying29 Tryz.sizeOf9 Tryz.zeroValue9 (by decide) (by decide) (by kernel_rfl) rfl rfl ?_)
        refine VO.op rfl (OpE.callT' (k + 20 * q + 1 + 6 * r + 1 + 1 + 1) rfl rfl hB rfl Tryz.call82 rfl ((some_T 1000 (by rfl) (by decide) (by decide) (by repeat (first | exact AllS.nil | refine AllS.cons (by first | decide | omega) ?_)))) (by omega) ?_)
        rintro _ ⟨r43, hr43, rfl⟩
        refine VO.mv rfl rfl rfl rfl ?_
        refine VO.op rfl (OpE.buildSlice (zc := #[.string ⟨#[]⟩, .string ⟨#[]⟩, .string ⟨#[]⟩]) rfl hB rfl Tryz.underlying29 Tryz.sizeOf9 Tryz.zeroValue9 (by decide) (by decide) (by kernel_rfl) rfl rfl ?_)
        refine VO.op rfl (OpE.callT' (k + 20 * q + 1 + 6 * r + 1 + 1 + 1 + 1) rfl rfl hB rfl Tryz.call82 rfl ((some_T 1000 (by rfl) (by decide) (by decide) (by repeat (first | exact AllS.nil | refine AllS.cons (by first | decide | omega) ?_)))) (by omega) ?_)
        rintro _ ⟨r46, hr46, rfl⟩
        refine VO.mv rfl rfl rfl rfl ?_
        refine VO.op rfl (OpE.buildSlice (zc := #[.string ⟨#[]⟩, .string ⟨#[]⟩, .string ⟨#[]⟩]) rfl hB rfl Tryz.underlying29 Tryz.sizeOf9 Tryz.zeroValue9 (by decide) (by decide) (by kernel_rfl) rfl rfl ?_)
        refine VO.op rfl (OpE.callT' (k + 20 * q + 1 + 6 * r + 1 + 1 + 1 + 1 + 1) rfl rfl hB rfl Tryz.call82 rfl ((some_T 1000 (by rfl) (by decide) (by decide) (by repeat (first | exact AllS.nil | refine AllS.cons (by first | decide | omega) ?_)))) (by omega) ?_)
        rintro _ ⟨r49, hr49, rfl⟩
        refine VO.val rfl rfl (OpV.build (pls := #[(0, 1), (1, 1), (2, 1), (3, 1), (4, 1), (5, 1), (6, 1), (7, 1)]) rfl Tryz.zeroValue80 Tryz.underlying80 (fun w => by kernel_rfl) rfl rfl) ?_
        refine VO.op rfl (OpE.buildSlice (zc := #[.string ⟨#[]⟩, .string ⟨#[]⟩, .int .i64 0, .int .i64 0, .bool false, .string ⟨#[]⟩, .string ⟨#[]⟩, .string ⟨#[]⟩]) rfl hB rfl Tryz.underlying54 Tryz.sizeOf80 Tryz.zeroValue80 (by decide) (by decide) (by kernel_rfl) rfl rfl ?_)
        refine VO.op rfl (OpE.append1 (i := 0) rfl hB rfl Tryz.underlying54 (infoOf Tryz.t80 8 (by kernel_rfl) rfl rfl) rfl (by decide) (by decide) rfl rfl rfl rfl (rowL_snoc l (⟨bdK q, nm3.getD r ByteArray.empty, atv + r18, r38, r40, r43, r46, r49⟩ : LookS)) (by omega) (fun _ _ => trivial) ?_)
        intro u52
        refine VO.ma rfl rfl rfl rfl ?_
        refine VO.nil ?_
        refine VC.region ?_
        refine VO.val rfl rfl (OpV.add rfl rfl rfl (by unfold fits; omega)) ?_
        refine VO.mv rfl rfl rfl rfl ?_
        refine VO.nil ?_
        exact Exists.intro (⟨(u52, l ++ [⟨bdK q, nm3.getD r ByteArray.empty, atv + r18, r38, r40, r43, r46, r49⟩], r + 1), by show r + 1 ≤ 3; omega, by show (l ++ [_]).length ≤ 3 * q + (r + 1); simp; omega, LkG.snoc hok ⟨BdG.k (by omega), NmG.k r, ⟨⟨by show -1 ≤ atv + r18; omega, by show atv + r18 ≤ 345686400000; omega⟩, fun _ _ => by show atv + r18 ≤ 10 * (m : Int); omega⟩, by unfold SmG; exact hr43, by unfold SmG; exact hr46, by unfold SmG; exact hr49⟩⟩) (And.intro (Le.mk hB [0] ⟨rfl, rfl, rfl, rfl, rfl, rfl, rfl, rfl, rfl, trivial⟩ rfl (by dsimp only; first | rfl | (rw [List.length_append]; rfl)) (show k + 20 * q + 1 + 6 * r + 1 + 1 + 1 + 1 + 1 + 1 ≤ k + 20 * q + 1 + 6 * (r + 1) by omega)) (by first | omega | (show _ < _; omega) | (simp only []; omega)))
    · have aH2 := aH2b
      try simp only [qqT, qqF, qqN, qqM, qqL, qqE] at aH2
      refine VC.exit ?_
      refine VC.region ?_
      refine VO.val rfl rfl (OpV.add rfl rfl rfl (by unfold fits; omega)) ?_
      refine VO.mv rfl rfl rfl rfl ?_
      refine VO.nil ?_
      exact Exists.intro (⟨((u, atv + r18), l, q + 1), by show q + 1 ≤ m; omega, by show l.length ≤ 3 * (q + 1); omega, ⟨by show 0 ≤ atv + r18; omega, by show atv + r18 ≤ 10 * ((q + 1 : Nat) : Int); omega⟩, hok⟩) (And.intro (Le.mk hB [0] ⟨rfl, rfl, rfl, rfl, rfl, trivial⟩ rfl rfl (show k + 20 * q + 1 + 6 * r ≤ k + 20 * (q + 1) by omega)) (by first | omega | (show _ < _; omega) | (simp only []; omega)))
  · have aH1 := aH1b
    try simp only [qqT, qqF, qqN, qqM, qqL, qqE] at aH1
    refine VC.exit ?_
    refine VC.seq ?_
    refine VC.sr ?_
    refine VO.mv rfl rfl rfl rfl ?_
    refine VO.val rfl rfl (OpV.len_row (i := 0) rfl Tryz.underlying54 rfl rfl) ?_
    refine VO.val rfl rfl (OpV.gtr rfl rfl rfl) ?_
    refine VO.mv rfl rfl rfl rfl ?_
    refine VO.opG rfl rfl rfl rfl (fun aK4b => ?_) (fun aK4b => ?_)
    · replace aK4b : _ = true := aK4b
      have aK4 := aK4b
      try simp only [qqT, qqF, qqN, qqM, qqL, qqE] at aK4
      refine OpE.val (W := NoB) (OpV.move (.inl rfl) rfl) rfl ?_
      refine VO.opY rfl rfl rfl rfl aK4b ?_
      refine OpE.callT' (k + 20 * q) rfl rfl hB rfl Tryz.call15 rfl ((flip_T (by omega))) (by omega) ?_
      rintro _ ⟨r60, rfl⟩
      refine VO.val rfl rfl (OpV.pickT rfl rfl rfl rfl aK4b) ?_
      refine VO.nil ?_
      refine VC.cond rfl (fun aH5b => ?_) (fun aH5b => ?_)
      · have aH5 := aH5b
        try simp only [qqT, qqF, qqN, qqM, qqL, qqE] at aH5
        refine VC.seq ?_
        refine VC.asBox (i := 0) rfl (by omega) (fun gr cap hu hcap hmx => ?_)
        subst hu
        refine VC.region ?_
        refine VO.mv rfl rfl rfl rfl ?_
        refine VO.mv rfl rfl rfl rfl ?_
        refine VO.mv rfl rfl rfl rfl ?_
        refine VO.val rfl rfl (OpV.len_v rfl Tryz.underlying54 rfl) ?_
        refine VO.op rfl (OpE.callT' (k + 20 * q + 1) rfl rfl hB rfl Tryz.call80 rfl ((next_T (by omega))) (by omega) ?_)
        rintro _ ⟨r66, hr66, rfl⟩
        obtain ⟨i, rfl⟩ : ∃ i : Nat, r66 = i := ⟨r66.toNat, by omega⟩
        refine VO.val rfl rfl (OpV.indexAddr_q rfl Tryz.underlying54 Tryz.sizeOf80 rfl rfl rfl (by omega)) ?_
        refine VO.ma rfl rfl rfl rfl ?_
        refine VO.nil ?_
        refine VC.seq ?_
        have hm0 : 0 < m := by omega
        refine VC.region ?_
        refine VO.mv rfl rfl rfl rfl ?_
        refine VO.op rfl (OpE.callT' (k + 20 * q + 1 + 1) rfl rfl hB rfl Tryz.call80 rfl ((next_T (by omega))) (by omega) ?_)
        rintro _ ⟨r69, hr69, rfl⟩
        refine VO.nil ?_
        refine VC.block ?_
        refine VC.sr ?_
        refine VO.val rfl rfl (OpV.eql rfl rfl rfl) ?_
        refine VO.ma rfl rfl rfl rfl ?_
        refine VO.nil ?_
        refine VC.cond rfl (fun aH6b => ?_) (fun aH6b => ?_)
        · have aH6 := aH6b
          try simp only [qqT, qqF, qqN, qqM, qqL, qqE] at aH6
          refine VC.draw (fun j b => j ∈ [18, 21] ∧ b = gr) hB (by kernel_rfl) ?_
          refine VA.take (i := 0) rfl (by decide +kernel) (by decide +kernel) (by decide +kernel) rfl rfl (OpV.move (.inl rfl) rfl) ?_
          refine VA.take (i := 1) rfl (by decide +kernel) (by decide +kernel) (by decide +kernel) rfl rfl (OpV.move (.inl rfl) rfl) ?_
          refine VA.take (i := 2) rfl (by decide +kernel) (by decide +kernel) (by decide +kernel) rfl rfl (OpV.move (.inl rfl) rfl) ?_
          refine VA.take (i := 3) rfl (by decide +kernel) (by decide +kernel) (by decide +kernel) rfl rfl (OpV.move (.inl rfl) rfl) ?_
          refine VA.take (i := 4) rfl (by decide +kernel) (by decide +kernel) (by decide +kernel) rfl rfl (OpV.nilCheck rfl rfl) ?_
          refine VA.take (i := 5) rfl (by decide +kernel) (by decide +kernel) (by decide +kernel) rfl rfl (OpV.fieldAddrO 0 rfl Tryz.underlying80 rfl rfl Tryz.sizeOf9 rfl) ?_
          refine VA.take (i := 6) rfl (by decide +kernel) (by decide +kernel) (by decide +kernel) rfl rfl (OpV.load_own (i := 0) rfl hB Tryz.isAgg9 rfl rfl (rowL_at rfl (by omega) (by decide)) (Wi.notD (by decide +kernel))) ?_
          refine VA.take (i := 9) rfl (by decide +kernel) (by decide +kernel) (by decide +kernel) rfl rfl (OpV.move (.inl rfl) rfl) ?_
          refine VA.take (i := 10) rfl (by decide +kernel) (by decide +kernel) (by decide +kernel) rfl rfl (OpV.move (.inl rfl) rfl) ?_
          refine VA.take (i := 11) rfl (by decide +kernel) (by decide +kernel) (by decide +kernel) rfl rfl (OpV.nilCheck rfl rfl) ?_
          refine VA.take (i := 12) rfl (by decide +kernel) (by decide +kernel) (by decide +kernel) rfl rfl (OpV.fieldAddrO 1 rfl Tryz.underlying80 rfl rfl Tryz.sizeOf9 rfl) ?_
          refine VA.take (i := 13) rfl (by decide +kernel) (by decide +kernel) (by decide +kernel) rfl rfl (OpV.load_own (i := 0) rfl hB Tryz.isAgg9 rfl rfl (rowL_at rfl (by omega) (by decide)) (Wi.notD (by decide +kernel))) ?_
          refine VA.bind (fun F hF => ?_)
          have hS0 : ∀ (r110 : ByteArray) (hr110 : BdG m r110) (r117 : ByteArray) (hr117 : NmG r117), F 4 (lstB 22 [0, 1, 2, 3, 4, 5, 6, 7, 8, 9, 10, 11, 12, 13, 14, 15, 16, 17]) ⟨[(0, sp p), (104, sp p), (111, sp p), (102, (pL gr (0 + i * 8))), (103, (pL gr (0 + i * 8))), (108, avS (xL l i).board), (115, avS (xL l i).name), (5, .v (.slice (some ⟨gr, 0, none⟩) l.length cap)), (109, (iL 3 [avS (xL l i).board, avS ⟨#[]⟩, avS ⟨#[98, 49]⟩])), (110, avS r110), (116, (iL 3 [avS (xL l i).name, avS ⟨#[99, 49]⟩, avS ⟨#[65]⟩])), (117, avS r117), (119, (pL gr (0 + i * 8 + 0)))], [.box gr ⟨rowL l, 80, cap * 8⟩], k + 20 * q + 1 + 1 + 1 + 1 + 1⟩ := by
            intro r110 hr110 r117 hr117
            rw [hF]
            refine VA.all (rs := [18]) (by decide +kernel) (by decide) ?_
            refine ⟨⟨_, rfl, .inl rfl, ?_⟩, trivial⟩
            refine OpE.store1 (i := 0) rfl hB rfl Tryz.sizeOf9 rfl rfl rfl rfl rfl rfl (rowL_in rfl (by omega) (by decide)) (rowL_set (x := ({l.getD i default with board := r110} : LookS)) rfl (by omega) (by decide) rfl (fun i hi hn => lk_upd (by simp) (by simp) (by simp) (by simp) (by simp) (by simp) (by simp) (by simp) i hi hn)) (by first | exact ⟨rfl, rfl⟩ | exact .inl ⟨rfl, rfl⟩ | exact .inr ⟨rfl, rfl⟩ | exact ⟨rfl, trivial⟩ | exact .inl ⟨rfl, trivial⟩ | exact .inr ⟨rfl, trivial⟩ | exact ⟨by decide, rfl⟩) ?_
            refine VA.take (i := 19) rfl (by decide +kernel) (by decide +kernel) (by decide +kernel) rfl rfl (OpV.nilCheck rfl rfl) ?_
            refine VA.take (i := 20) rfl (by decide +kernel) (by decide +kernel) (by decide +kernel) rfl rfl (OpV.fieldAddrO 1 rfl Tryz.underlying80 rfl rfl Tryz.sizeOf9 rfl) ?_
            refine VA.all (rs := [21]) (by decide +kernel) (by decide) ?_
            refine ⟨⟨_, rfl, .inl rfl, ?_⟩, trivial⟩
            refine OpE.store1 (i := 0) rfl hB rfl Tryz.sizeOf9 rfl rfl rfl rfl rfl rfl (rowL_in rfl (by rw [List.length_set]; omega) (by decide)) (rowL_set (x := ({l.getD i default with board := r110, name := r117} : LookS)) rfl (by rw [List.length_set]; omega) (by decide) rfl (fun i hi hn => by rw [getSet_lk (by omega)]; exact lk_upd (by simp) (by simp) (by simp) (by simp) (by simp) (by simp) (by simp) (by simp) i hi hn)) (by first | exact ⟨rfl, rfl⟩ | exact .inl ⟨rfl, rfl⟩ | exact .inr ⟨rfl, rfl⟩ | exact ⟨rfl, trivial⟩ | exact .inl ⟨rfl, trivial⟩ | exact .inr ⟨rfl, trivial⟩ | exact ⟨by decide, rfl⟩) ?_
            refine VA.done (by decide +kernel) ?_
            refine VC.sr ?_
            refine VO.mv rfl rfl rfl rfl ?_
            refine VO.ma rfl rfl rfl rfl ?_
            refine VO.nil ?_
            refine VC.le _ (Le.boxRow (i := 0) (n := l.length) (sz := 8) rfl (by simp only [rowL_len, List.length_set]; rfl) hcap hmx) ?_
            refine VC.ret ?_
            exact Exists.intro _ (And.intro (RetV.one Tryz.results31 (ResV.tmp rfl)) (And.intro (by first | exact ⟨l, _, ⟨by omega, hok⟩, rfl, rfl⟩ | exact ⟨_, _, ⟨by simp only [List.length_set]; omega, lk_s1 hok i hr110 hr117⟩, rfl, by simp only [List.length_set]; rfl⟩ | exact ⟨_, _, ⟨by simp only [List.length_set]; omega, lk_s2 hok i hr132⟩, rfl, by simp only [List.length_set]; rfl⟩ | exact ⟨_, _, ⟨by simp only [List.length_set]; omega, lk_s3 hok i hr79 hr86 hr93⟩, rfl, by simp only [List.length_set]; rfl⟩) ((show k + 20 * q + 1 + 1 + 1 + 1 + 1 ≤ k + 200 by omega))))
          have hS1 : ∀ (r110 : ByteArray) (hr110 : BdG m r110), F 7 (lstB 22 [0, 1, 2, 3, 4, 5, 6, 7, 8, 9, 10, 11, 12, 13, 14]) ⟨[(0, sp p), (104, sp p), (111, sp p), (102, (pL gr (0 + i * 8))), (103, (pL gr (0 + i * 8))), (108, avS (xL l i).board), (115, avS (xL l i).name), (5, .v (.slice (some ⟨gr, 0, none⟩) l.length cap)), (109, (iL 3 [avS (xL l i).board, avS ⟨#[]⟩, avS ⟨#[98, 49]⟩])), (110, avS r110), (116, (iL 3 [avS (xL l i).name, avS ⟨#[99, 49]⟩, avS ⟨#[65]⟩]))], [.box gr ⟨rowL l, 80, cap * 8⟩], k + 20 * q + 1 + 1 + 1 + 1⟩ := by
            intro r110 hr110
            rw [hF]
            refine VA.all (rs := [15]) (by decide +kernel) (by decide) ?_
            refine ⟨⟨_, rfl, .inl rfl, ?_⟩, trivial⟩
            refine OpE.callT' (k + 20 * q + 1 + 1 + 1 + 1) rfl rfl hB rfl Tryz.call82 rfl (some_G NmG (by rfl) (by decide) (by decide) (AllG.cons (LkG.getD hok i).name (AllG.cons NmG.c1 (AllG.cons NmG.none AllG.nil)))) (by omega) ?_
            rintro _ ⟨r117, hr117, rfl⟩
            refine VA.take (i := 16) rfl (by decide +kernel) (by decide +kernel) (by decide +kernel) rfl rfl (OpV.nilCheck rfl rfl) ?_
            refine VA.take (i := 17) rfl (by decide +kernel) (by decide +kernel) (by decide +kernel) rfl rfl (OpV.fieldAddrO 0 rfl Tryz.underlying80 rfl rfl Tryz.sizeOf9 rfl) ?_
            have hh := hS0 r110 hr110 r117 hr117
            rw [hF] at hh
            exact VA.to hh (by decide +kernel) (Le.mk hB [0] ⟨rfl, rfl, rfl, rfl, rfl, rfl, rfl, rfl, rfl, rfl, rfl, rfl, rfl, trivial⟩ rfl rfl (Nat.le_refl _))
          have hS2 : ∀ (r110 : ByteArray) (hr110 : BdG m r110), F 8 (lstB 22 [0, 1, 2, 3, 4, 5, 6, 7, 8, 9, 10, 11, 12, 13]) ⟨[(0, sp p), (104, sp p), (111, sp p), (102, (pL gr (0 + i * 8))), (103, (pL gr (0 + i * 8))), (108, avS (xL l i).board), (115, avS (xL l i).name), (5, .v (.slice (some ⟨gr, 0, none⟩) l.length cap)), (109, (iL 3 [avS (xL l i).board, avS ⟨#[]⟩, avS ⟨#[98, 49]⟩])), (110, avS r110)], [.box gr ⟨rowL l, 80, cap * 8⟩], k + 20 * q + 1 + 1 + 1 + 1⟩ := by
            intro r110 hr110
            rw [hF]
            refine VA.all (rs := [14]) (by decide +kernel) (by decide) ?_
            refine ⟨⟨_, rfl, .inl rfl, ?_⟩, trivial⟩
            refine OpE.buildSlice (zc := #[.string ⟨#[]⟩, .string ⟨#[]⟩, .string ⟨#[]⟩]) rfl hB rfl Tryz.underlying29 Tryz.sizeOf9 Tryz.zeroValue9 (by decide) (by decide) (by kernel_rfl) rfl rfl ?_
            have hh := hS1 r110 hr110
            rw [hF] at hh
            exact VA.to hh (by decide +kernel) (Le.mk hB [0] ⟨rfl, rfl, rfl, rfl, rfl, rfl, rfl, rfl, rfl, rfl, rfl, trivial⟩ rfl rfl (Nat.le_refl _))
          have hS3 : F 8 (lstB 22 [0, 1, 2, 3, 4, 5, 6, 7, 9, 10, 11, 12, 13, 14]) ⟨[(0, sp p), (104, sp p), (111, sp p), (102, (pL gr (0 + i * 8))), (103, (pL gr (0 + i * 8))), (108, avS (xL l i).board), (115, avS (xL l i).name), (5, .v (.slice (some ⟨gr, 0, none⟩) l.length cap)), (109, (iL 3 [avS (xL l i).board, avS ⟨#[]⟩, avS ⟨#[98, 49]⟩])), (116, (iL 3 [avS (xL l i).name, avS ⟨#[99, 49]⟩, avS ⟨#[65]⟩]))], [.box gr ⟨rowL l, 80, cap * 8⟩], k + 20 * q + 1 + 1 + 1⟩ := by
            rw [hF]
            refine VA.all (rs := [8]) (by decide +kernel) (by decide) ?_
            refine ⟨⟨_, rfl, .inl rfl, ?_⟩, trivial⟩
            refine OpE.callT' (k + 20 * q + 1 + 1 + 1) rfl rfl hB rfl Tryz.call82 rfl (some_G (BdG m) (by rfl) (by decide) (by decide) (AllG.cons (LkG.getD hok i).board (AllG.cons (BdG.none m) (AllG.cons (BdG.b1 hm0) AllG.nil)))) (by omega) ?_
            rintro _ ⟨r110, hr110, rfl⟩
            have hh := hS1 r110 hr110
            rw [hF] at hh
            exact VA.to hh (by decide +kernel) (Le.mk hB [0] ⟨rfl, rfl, rfl, rfl, rfl, rfl, rfl, rfl, rfl, rfl, rfl, trivial⟩ rfl rfl (Nat.le_refl _))
          have hS4 : F 9 (lstB 22 [0, 1, 2, 3, 4, 5, 6, 7, 9, 10, 11, 12, 13]) ⟨[(0, sp p), (104, sp p), (111, sp p), (102, (pL gr (0 + i * 8))), (103, (pL gr (0 + i * 8))), (108, avS (xL l i).board), (115, avS (xL l i).name), (5, .v (.slice (some ⟨gr, 0, none⟩) l.length cap)), (109, (iL 3 [avS (xL l i).board, avS ⟨#[]⟩, avS ⟨#[98, 49]⟩]))], [.box gr ⟨rowL l, 80, cap * 8⟩], k + 20 * q + 1 + 1 + 1⟩ := by
            rw [hF]
            refine VA.all (rs := [8, 14]) (by decide +kernel) (by decide) ?_
            refine ⟨⟨_, rfl, .inl rfl, ?_⟩, ⟨_, rfl, .inl rfl, ?_⟩, trivial⟩
            ·
              refine OpE.callT' (k + 20 * q + 1 + 1 + 1) rfl rfl hB rfl Tryz.call82 rfl (some_G (BdG m) (by rfl) (by decide) (by decide) (AllG.cons (LkG.getD hok i).board (AllG.cons (BdG.none m) (AllG.cons (BdG.b1 hm0) AllG.nil)))) (by omega) ?_
              rintro _ ⟨r110, hr110, rfl⟩
              have hh := hS2 r110 hr110
              rw [hF] at hh
              exact VA.to hh (by decide +kernel) (Le.mk hB [0] ⟨rfl, rfl, rfl, rfl, rfl, rfl, rfl, rfl, rfl, rfl, trivial⟩ rfl rfl (Nat.le_refl _))
            ·
              refine OpE.buildSlice (zc := #[.string ⟨#[]⟩, .string ⟨#[]⟩, .string ⟨#[]⟩]) rfl hB rfl Tryz.underlying29 Tryz.sizeOf9 Tryz.zeroValue9 (by decide) (by decide) (by kernel_rfl) rfl rfl ?_
              have hh := hS3 
              rw [hF] at hh
              exact VA.to hh (by decide +kernel) (Le.mk hB [0] ⟨rfl, rfl, rfl, rfl, rfl, rfl, rfl, rfl, rfl, rfl, trivial⟩ rfl rfl (Nat.le_refl _))
          have hS5 : F 9 (lstB 22 [0, 1, 2, 3, 4, 5, 6, 9, 10, 11, 12, 13, 14]) ⟨[(0, sp p), (104, sp p), (111, sp p), (102, (pL gr (0 + i * 8))), (103, (pL gr (0 + i * 8))), (108, avS (xL l i).board), (115, avS (xL l i).name), (5, .v (.slice (some ⟨gr, 0, none⟩) l.length cap)), (116, (iL 3 [avS (xL l i).name, avS ⟨#[99, 49]⟩, avS ⟨#[65]⟩]))], [.box gr ⟨rowL l, 80, cap * 8⟩], k + 20 * q + 1 + 1 + 1⟩ := by
            rw [hF]
            refine VA.all (rs := [7]) (by decide +kernel) (by decide) ?_
            refine ⟨⟨_, rfl, .inl rfl, ?_⟩, trivial⟩
            refine OpE.buildSlice (zc := #[.string ⟨#[]⟩, .string ⟨#[]⟩, .string ⟨#[]⟩]) rfl hB rfl Tryz.underlying29 Tryz.sizeOf9 Tryz.zeroValue9 (by decide) (by decide) (by kernel_rfl) rfl rfl ?_
            have hh := hS3 
            rw [hF] at hh
            exact VA.to hh (by decide +kernel) (Le.mk hB [0] ⟨rfl, rfl, rfl, rfl, rfl, rfl, rfl, rfl, rfl, rfl, trivial⟩ rfl rfl (Nat.le_refl _))
          have hS6 : F 10 (lstB 22 [0, 1, 2, 3, 4, 5, 6, 9, 10, 11, 12, 13]) ⟨[(0, sp p), (104, sp p), (111, sp p), (102, (pL gr (0 + i * 8))), (103, (pL gr (0 + i * 8))), (108, avS (xL l i).board), (115, avS (xL l i).name), (5, .v (.slice (some ⟨gr, 0, none⟩) l.length cap))], [.box gr ⟨rowL l, 80, cap * 8⟩], k + 20 * q + 1 + 1 + 1⟩ := by
            rw [hF]
            refine VA.all (rs := [7, 14]) (by decide +kernel) (by decide) ?_
            refine ⟨⟨_, rfl, .inl rfl, ?_⟩, ⟨_, rfl, .inl rfl, ?_⟩, trivial⟩
            ·
              refine OpE.buildSlice (zc := #[.string ⟨#[]⟩, .string ⟨#[]⟩, .string ⟨#[]⟩]) rfl hB rfl Tryz.underlying29 Tryz.sizeOf9 Tryz.zeroValue9 (by decide) (by decide) (by kernel_rfl) rfl rfl ?_
              have hh := hS4 
              rw [hF] at hh
              exact VA.to hh (by decide +kernel) (Le.mk hB [0] ⟨rfl, rfl, rfl, rfl, rfl, rfl, rfl, rfl, rfl, trivial⟩ rfl rfl (Nat.le_refl _))
            ·
              refine OpE.buildSlice (zc := #[.string ⟨#[]⟩, .string ⟨#[]⟩, .string ⟨#[]⟩]) rfl hB rfl Tryz.underlying29 Tryz.sizeOf9 Tryz.zeroValue9 (by decide) (by decide) (by kernel_rfl) rfl rfl ?_
              have hh := hS5 
              rw [hF] at hh
              exact VA.to hh (by decide +kernel) (Le.mk hB [0] ⟨rfl, rfl, rfl, rfl, rfl, rfl, rfl, rfl, rfl, trivial⟩ rfl rfl (Nat.le_refl _))
          rw [hF]
          have hh := hS6 
          rw [hF] at hh
          exact VA.to hh (by decide +kernel) (Le.mk hB [0] ⟨rfl, rfl, rfl, rfl, rfl, rfl, rfl, rfl, trivial⟩ rfl rfl (Nat.le_refl _))
        · have aH6 := aH6b
          try simp only [qqT, qqF, qqN, qqM, qqL, qqE] at aH6
          refine VC.sr ?_
          refine VO.val rfl rfl (OpV.eql rfl rfl rfl) ?_
          refine VO.ma rfl rfl rfl rfl ?_
          refine VO.nil ?_
          refine VC.cond rfl (fun aH7b => ?_) (fun aH7b => ?_)
          · have aH7 := aH7b
            try simp only [qqT, qqF, qqN, qqM, qqL, qqE] at aH7
            refine VC.region ?_
            refine VO.mv rfl rfl rfl rfl ?_
            refine VO.mv rfl rfl rfl rfl ?_
            refine VO.mv rfl rfl rfl rfl ?_
            refine VO.mv rfl rfl rfl rfl ?_
            refine VO.val rfl rfl (OpV.nilCheck rfl rfl) ?_
            refine VO.val rfl rfl (OpV.fieldAddrO 2 rfl Tryz.underlying80 rfl rfl Tryz.sizeOf3 rfl) ?_
            refine VO.val rfl rfl (OpV.load_own (i := 0) rfl hB Tryz.isAgg3 rfl rfl (rowL_at rfl (by omega) (by decide)) (fun h => h)) ?_
            refine VO.op rfl (OpE.buildSlice (zc := #[.int .i64 0, .int .i64 0, .int .i64 0]) rfl hB rfl Tryz.underlying22 Tryz.sizeOf3 Tryz.zeroValue3 (by decide) (by decide) (by kernel_rfl) rfl rfl ?_)
            refine VO.op rfl (OpE.callT' (k + 20 * q + 1 + 1 + 1) rfl rfl hB rfl Tryz.call14 rfl (pick_J (AtG m) (by rfl) (by decide) (by decide) (AllJ.cons (LkG.getD hok i).at_ (AllJ.cons AtG.neg (AllJ.cons AtG.end_ AllJ.nil)))) (by omega) ?_)
            rintro _ ⟨r132, hr132, rfl⟩
            refine VO.mv rfl rfl rfl rfl ?_
            refine VO.op rfl (OpE.callT' (k + 20 * q + 1 + 1 + 1 + 1) rfl rfl hB rfl Tryz.call111 rfl (odd_L) (by omega) ?_)
            rintro _ ⟨r134, rfl⟩
            refine VO.val rfl rfl (OpV.nilCheck rfl rfl) ?_
            refine VO.val rfl rfl (OpV.fieldAddrO 2 rfl Tryz.underlying80 rfl rfl Tryz.sizeOf3 rfl) ?_
            refine VO.op rfl (OpE.store1 (i := 0) rfl hB rfl Tryz.sizeOf3 rfl rfl rfl rfl rfl rfl (rowL_in rfl (by omega) (by decide)) (rowL_set (x := ({l.getD i default with at_ := r132} : LookS)) rfl (by omega) (by decide) rfl (fun i hi hn => lk_upd (by simp) (by simp) (by simp) (by simp) (by simp) (by simp) (by simp) (by simp) i hi hn)) trivial ?_)
            refine VO.val rfl rfl (OpV.nilCheck rfl rfl) ?_
            refine VO.val rfl rfl (OpV.fieldAddrO 3 rfl Tryz.underlying80 rfl rfl Tryz.sizeOf3 rfl) ?_
            refine VO.op rfl (OpE.store1 (i := 0) rfl hB rfl Tryz.sizeOf3 rfl rfl rfl rfl rfl rfl (rowL_in rfl (by rw [List.length_set]; omega) (by decide)) (rowL_set (x := ({l.getD i default with at_ := r132, verdict := r134} : LookS)) rfl (by rw [List.length_set]; omega) (by decide) rfl (fun i hi hn => by rw [getSet_lk (by omega)]; exact lk_upd (by simp) (by simp) (by simp) (by simp) (by simp) (by simp) (by simp) (by simp) i hi hn)) trivial ?_)
            refine VO.nil ?_
            refine VC.sr ?_
            refine VO.mv rfl rfl rfl rfl ?_
            refine VO.ma rfl rfl rfl rfl ?_
            refine VO.nil ?_
            refine VC.le _ (Le.boxRow (i := 0) (n := l.length) (sz := 8) rfl (by simp only [rowL_len, List.length_set]; rfl) hcap hmx) ?_
            refine VC.ret ?_
            exact Exists.intro _ (And.intro (RetV.one Tryz.results31 (ResV.tmp rfl)) (And.intro (by first | exact ⟨l, _, ⟨by omega, hok⟩, rfl, rfl⟩ | exact ⟨_, _, ⟨by simp only [List.length_set]; omega, lk_s1 hok i hr110 hr117⟩, rfl, by simp only [List.length_set]; rfl⟩ | exact ⟨_, _, ⟨by simp only [List.length_set]; omega, lk_s2 hok i hr132⟩, rfl, by simp only [List.length_set]; rfl⟩ | exact ⟨_, _, ⟨by simp only [List.length_set]; omega, lk_s3 hok i hr79 hr86 hr93⟩, rfl, by simp only [List.length_set]; rfl⟩) ((show k + 20 * q + 1 + 1 + 1 + 1 + 2 ≤ k + 200 by omega))))
          · have aH7 := aH7b
            try simp only [qqT, qqF, qqN, qqM, qqL, qqE] at aH7
            refine VC.draw (fun j b => j ∈ [26, 29, 32] ∧ b = gr) hB (by kernel_rfl) ?_
            refine VA.take (i := 0) rfl (by decide +kernel) (by decide +kernel) (by decide +kernel) rfl rfl (OpV.move (.inl rfl) rfl) ?_
            refine VA.take (i := 1) rfl (by decide +kernel) (by decide +kernel) (by decide +kernel) rfl rfl (OpV.move (.inl rfl) rfl) ?_
            refine VA.take (i := 2) rfl (by decide +kernel) (by decide +kernel) (by decide +kernel) rfl rfl (OpV.move (.inl rfl) rfl) ?_
            refine VA.take (i := 3) rfl (by decide +kernel) (by decide +kernel) (by decide +kernel) rfl rfl (OpV.move (.inl rfl) rfl) ?_
            refine VA.take (i := 4) rfl (by decide +kernel) (by decide +kernel) (by decide +kernel) rfl rfl (OpV.move (.inl rfl) rfl) ?_
            refine VA.take (i := 5) rfl (by decide +kernel) (by decide +kernel) (by decide +kernel) rfl rfl (OpV.nilCheck rfl rfl) ?_
            refine VA.take (i := 6) rfl (by decide +kernel) (by decide +kernel) (by decide +kernel) rfl rfl (OpV.fieldAddrO 5 rfl Tryz.underlying80 rfl rfl Tryz.sizeOf9 rfl) ?_
            refine VA.take (i := 7) rfl (by decide +kernel) (by decide +kernel) (by decide +kernel) rfl rfl (OpV.load_own (i := 0) rfl hB Tryz.isAgg9 rfl rfl (rowL_at rfl (by omega) (by decide)) (Wi.notD (by decide +kernel))) ?_
            refine VA.take (i := 10) rfl (by decide +kernel) (by decide +kernel) (by decide +kernel) rfl rfl (OpV.move (.inl rfl) rfl) ?_
            refine VA.take (i := 11) rfl (by decide +kernel) (by decide +kernel) (by decide +kernel) rfl rfl (OpV.move (.inl rfl) rfl) ?_
            refine VA.take (i := 12) rfl (by decide +kernel) (by decide +kernel) (by decide +kernel) rfl rfl (OpV.nilCheck rfl rfl) ?_
            refine VA.take (i := 13) rfl (by decide +kernel) (by decide +kernel) (by decide +kernel) rfl rfl (OpV.fieldAddrO 6 rfl Tryz.underlying80 rfl rfl Tryz.sizeOf9 rfl) ?_
            refine VA.take (i := 14) rfl (by decide +kernel) (by decide +kernel) (by decide +kernel) rfl rfl (OpV.load_own (i := 0) rfl hB Tryz.isAgg9 rfl rfl (rowL_at rfl (by omega) (by decide)) (Wi.notD (by decide +kernel))) ?_
            refine VA.take (i := 17) rfl (by decide +kernel) (by decide +kernel) (by decide +kernel) rfl rfl (OpV.move (.inl rfl) rfl) ?_
            refine VA.take (i := 18) rfl (by decide +kernel) (by decide +kernel) (by decide +kernel) rfl rfl (OpV.move (.inl rfl) rfl) ?_
            refine VA.take (i := 19) rfl (by decide +kernel) (by decide +kernel) (by decide +kernel) rfl rfl (OpV.nilCheck rfl rfl) ?_
            refine VA.take (i := 20) rfl (by decide +kernel) (by decide +kernel) (by decide +kernel) rfl rfl (OpV.fieldAddrO 7 rfl Tryz.underlying80 rfl rfl Tryz.sizeOf9 rfl) ?_
            refine VA.take (i := 21) rfl (by decide +kernel) (by decide +kernel) (by decide +kernel) rfl rfl (OpV.load_own (i := 0) rfl hB Tryz.isAgg9 rfl rfl (rowL_at rfl (by omega) (by decide)) (Wi.notD (by decide +kernel))) ?_
            refine VA.bind (fun F hF => ?_)
            have hS0 : ∀ (r79 : ByteArray) (hr79 : r79.size ≤ 1000) (r86 : ByteArray) (hr86 : r86.size ≤ 1000) (r93 : ByteArray) (hr93 : r93.size ≤ 1000), F 7 (lstB 33 [0, 1, 2, 3, 4, 5, 6, 7, 8, 9, 10, 11, 12, 13, 14, 15, 16, 17, 18, 19, 20, 21, 22, 23, 24, 25]) ⟨[(0, sp p), (73, sp p), (80, sp p), (87, sp p), (70, (pL gr (0 + i * 8))), (71, (pL gr (0 + i * 8))), (72, (pL gr (0 + i * 8))), (77, avS (xL l i).machine), (84, avS (xL l i).nozzle), (91, avS (xL l i).reel), (5, .v (.slice (some ⟨gr, 0, none⟩) l.length cap)), (78, (iL 2 [avS (xL l i).machine, avS ⟨#[]⟩])), (79, avS r79), (85, (iL 2 [avS (xL l i).nozzle, avS ⟨#[65]⟩])), (86, avS r86), (92, (iL 2 [avS (xL l i).reel, avS ⟨#[]⟩])), (93, avS r93), (95, (pL gr (0 + i * 8 + 5)))], [.box gr ⟨rowL l, 80, cap * 8⟩], k + 20 * q + 1 + 1 + 1 + 1 + 1 + 1⟩ := by
              intro r79 hr79 r86 hr86 r93 hr93
              rw [hF]
              refine VA.all (rs := [26]) (by decide +kernel) (by decide) ?_
              refine ⟨⟨_, rfl, .inl rfl, ?_⟩, trivial⟩
              refine OpE.store1 (i := 0) rfl hB rfl Tryz.sizeOf9 rfl rfl rfl rfl rfl rfl (rowL_in rfl (by omega) (by decide)) (rowL_set (x := ({l.getD i default with machine := r79} : LookS)) rfl (by omega) (by decide) rfl (fun i hi hn => lk_upd (by simp) (by simp) (by simp) (by simp) (by simp) (by simp) (by simp) (by simp) i hi hn)) (by first | exact ⟨rfl, rfl⟩ | exact .inl ⟨rfl, rfl⟩ | exact .inr ⟨rfl, rfl⟩ | exact ⟨rfl, trivial⟩ | exact .inl ⟨rfl, trivial⟩ | exact .inr ⟨rfl, trivial⟩ | exact ⟨by decide, rfl⟩) ?_
              refine VA.take (i := 27) rfl (by decide +kernel) (by decide +kernel) (by decide +kernel) rfl rfl (OpV.nilCheck rfl rfl) ?_
              refine VA.take (i := 28) rfl (by decide +kernel) (by decide +kernel) (by decide +kernel) rfl rfl (OpV.fieldAddrO 6 rfl Tryz.underlying80 rfl rfl Tryz.sizeOf9 rfl) ?_
              refine VA.all (rs := [29]) (by decide +kernel) (by decide) ?_
              refine ⟨⟨_, rfl, .inl rfl, ?_⟩, trivial⟩
              refine OpE.store1 (i := 0) rfl hB rfl Tryz.sizeOf9 rfl rfl rfl rfl rfl rfl (rowL_in rfl (by rw [List.length_set]; omega) (by decide)) (rowL_set (x := ({l.getD i default with machine := r79, nozzle := r86} : LookS)) rfl (by rw [List.length_set]; omega) (by decide) rfl (fun i hi hn => by rw [getSet_lk (by omega)]; exact lk_upd (by simp) (by simp) (by simp) (by simp) (by simp) (by simp) (by simp) (by simp) i hi hn)) (by first | exact ⟨rfl, rfl⟩ | exact .inl ⟨rfl, rfl⟩ | exact .inr ⟨rfl, rfl⟩ | exact ⟨rfl, trivial⟩ | exact .inl ⟨rfl, trivial⟩ | exact .inr ⟨rfl, trivial⟩ | exact ⟨by decide, rfl⟩) ?_
              refine VA.take (i := 30) rfl (by decide +kernel) (by decide +kernel) (by decide +kernel) rfl rfl (OpV.nilCheck rfl rfl) ?_
              refine VA.take (i := 31) rfl (by decide +kernel) (by decide +kernel) (by decide +kernel) rfl rfl (OpV.fieldAddrO 7 rfl Tryz.underlying80 rfl rfl Tryz.sizeOf9 rfl) ?_
              refine VA.all (rs := [32]) (by decide +kernel) (by decide) ?_
              refine ⟨⟨_, rfl, .inl rfl, ?_⟩, trivial⟩
              refine OpE.store1 (i := 0) rfl hB rfl Tryz.sizeOf9 rfl rfl rfl rfl rfl rfl (rowL_in rfl (by simp only [List.length_set]; omega) (by decide)) (rowL_set (x := ({l.getD i default with machine := r79, nozzle := r86, reel := r93} : LookS)) rfl (by simp only [List.length_set]; omega) (by decide) rfl (fun i hi hn => by rw [getSet_lk (by simp only [List.length_set]; omega)]; exact lk_upd (by simp) (by simp) (by simp) (by simp) (by simp) (by simp) (by simp) (by simp) i hi hn)) (by first | exact ⟨rfl, rfl⟩ | exact .inl ⟨rfl, rfl⟩ | exact .inr ⟨rfl, rfl⟩ | exact ⟨rfl, trivial⟩ | exact .inl ⟨rfl, trivial⟩ | exact .inr ⟨rfl, trivial⟩ | exact ⟨by decide, rfl⟩) ?_
              refine VA.done (by decide +kernel) ?_
              refine VC.sr ?_
              refine VO.mv rfl rfl rfl rfl ?_
              refine VO.ma rfl rfl rfl rfl ?_
              refine VO.nil ?_
              refine VC.le _ (Le.boxRow (i := 0) (n := l.length) (sz := 8) rfl (by simp only [rowL_len, List.length_set]; rfl) hcap hmx) ?_
              refine VC.ret ?_
              exact Exists.intro _ (And.intro (RetV.one Tryz.results31 (ResV.tmp rfl)) (And.intro (by first | exact ⟨l, _, ⟨by omega, hok⟩, rfl, rfl⟩ | exact ⟨_, _, ⟨by simp only [List.length_set]; omega, lk_s1 hok i hr110 hr117⟩, rfl, by simp only [List.length_set]; rfl⟩ | exact ⟨_, _, ⟨by simp only [List.length_set]; omega, lk_s2 hok i hr132⟩, rfl, by simp only [List.length_set]; rfl⟩ | exact ⟨_, _, ⟨by simp only [List.length_set]; omega, lk_s3 hok i hr79 hr86 hr93⟩, rfl, by simp only [List.length_set]; rfl⟩) ((show k + 20 * q + 1 + 1 + 1 + 1 + 1 + 1 ≤ k + 200 by omega))))
            have hS1 : ∀ (r79 : ByteArray) (hr79 : r79.size ≤ 1000) (r86 : ByteArray) (hr86 : r86.size ≤ 1000), F 10 (lstB 33 [0, 1, 2, 3, 4, 5, 6, 7, 8, 9, 10, 11, 12, 13, 14, 15, 16, 17, 18, 19, 20, 21, 22]) ⟨[(0, sp p), (73, sp p), (80, sp p), (87, sp p), (70, (pL gr (0 + i * 8))), (71, (pL gr (0 + i * 8))), (72, (pL gr (0 + i * 8))), (77, avS (xL l i).machine), (84, avS (xL l i).nozzle), (91, avS (xL l i).reel), (5, .v (.slice (some ⟨gr, 0, none⟩) l.length cap)), (78, (iL 2 [avS (xL l i).machine, avS ⟨#[]⟩])), (79, avS r79), (85, (iL 2 [avS (xL l i).nozzle, avS ⟨#[65]⟩])), (86, avS r86), (92, (iL 2 [avS (xL l i).reel, avS ⟨#[]⟩]))], [.box gr ⟨rowL l, 80, cap * 8⟩], k + 20 * q + 1 + 1 + 1 + 1 + 1⟩ := by
              intro r79 hr79 r86 hr86
              rw [hF]
              refine VA.all (rs := [23]) (by decide +kernel) (by decide) ?_
              refine ⟨⟨_, rfl, .inl rfl, ?_⟩, trivial⟩
              refine OpE.callT' (k + 20 * q + 1 + 1 + 1 + 1 + 1) rfl rfl hB rfl Tryz.call82 rfl (some_T 1000 (by rfl) (by decide) (by decide) (AllS.cons (LkG.getD hok i).reel (AllS.cons (by decide) AllS.nil))) (by omega) ?_
              rintro _ ⟨r93, hr93, rfl⟩
              refine VA.take (i := 24) rfl (by decide +kernel) (by decide +kernel) (by decide +kernel) rfl rfl (OpV.nilCheck rfl rfl) ?_
              refine VA.take (i := 25) rfl (by decide +kernel) (by decide +kernel) (by decide +kernel) rfl rfl (OpV.fieldAddrO 5 rfl Tryz.underlying80 rfl rfl Tryz.sizeOf9 rfl) ?_
              have hh := hS0 r79 hr79 r86 hr86 r93 hr93
              rw [hF] at hh
              exact VA.to hh (by decide +kernel) (Le.mk hB [0] ⟨rfl, rfl, rfl, rfl, rfl, rfl, rfl, rfl, rfl, rfl, rfl, rfl, rfl, rfl, rfl, rfl, rfl, rfl, trivial⟩ rfl rfl (Nat.le_refl _))
            have hS2 : ∀ (r79 : ByteArray) (hr79 : r79.size ≤ 1000) (r86 : ByteArray) (hr86 : r86.size ≤ 1000), F 11 (lstB 33 [0, 1, 2, 3, 4, 5, 6, 7, 8, 9, 10, 11, 12, 13, 14, 15, 16, 17, 18, 19, 20, 21]) ⟨[(0, sp p), (73, sp p), (80, sp p), (87, sp p), (70, (pL gr (0 + i * 8))), (71, (pL gr (0 + i * 8))), (72, (pL gr (0 + i * 8))), (77, avS (xL l i).machine), (84, avS (xL l i).nozzle), (91, avS (xL l i).reel), (5, .v (.slice (some ⟨gr, 0, none⟩) l.length cap)), (78, (iL 2 [avS (xL l i).machine, avS ⟨#[]⟩])), (79, avS r79), (85, (iL 2 [avS (xL l i).nozzle, avS ⟨#[65]⟩])), (86, avS r86)], [.box gr ⟨rowL l, 80, cap * 8⟩], k + 20 * q + 1 + 1 + 1 + 1 + 1⟩ := by
              intro r79 hr79 r86 hr86
              rw [hF]
              refine VA.all (rs := [22]) (by decide +kernel) (by decide) ?_
              refine ⟨⟨_, rfl, .inl rfl, ?_⟩, trivial⟩
              refine OpE.buildSlice (zc := #[.string ⟨#[]⟩, .string ⟨#[]⟩]) rfl hB rfl Tryz.underlying29 Tryz.sizeOf9 Tryz.zeroValue9 (by decide) (by decide) (by kernel_rfl) rfl rfl ?_
              have hh := hS1 r79 hr79 r86 hr86
              rw [hF] at hh
              exact VA.to hh (by decide +kernel) (Le.mk hB [0] ⟨rfl, rfl, rfl, rfl, rfl, rfl, rfl, rfl, rfl, rfl, rfl, rfl, rfl, rfl, rfl, rfl, trivial⟩ rfl rfl (Nat.le_refl _))
            have hS3 : ∀ (r79 : ByteArray) (hr79 : r79.size ≤ 1000), F 11 (lstB 33 [0, 1, 2, 3, 4, 5, 6, 7, 8, 9, 10, 11, 12, 13, 14, 15, 17, 18, 19, 20, 21, 22]) ⟨[(0, sp p), (73, sp p), (80, sp p), (87, sp p), (70, (pL gr (0 + i * 8))), (71, (pL gr (0 + i * 8))), (72, (pL gr (0 + i * 8))), (77, avS (xL l i).machine), (84, avS (xL l i).nozzle), (91, avS (xL l i).reel), (5, .v (.slice (some ⟨gr, 0, none⟩) l.length cap)), (78, (iL 2 [avS (xL l i).machine, avS ⟨#[]⟩])), (79, avS r79), (85, (iL 2 [avS (xL l i).nozzle, avS ⟨#[65]⟩])), (92, (iL 2 [avS (xL l i).reel, avS ⟨#[]⟩]))], [.box gr ⟨rowL l, 80, cap * 8⟩], k + 20 * q + 1 + 1 + 1 + 1⟩ := by
              intro r79 hr79
              rw [hF]
              refine VA.all (rs := [16]) (by decide +kernel) (by decide) ?_
              refine ⟨⟨_, rfl, .inl rfl, ?_⟩, trivial⟩
              refine OpE.callT' (k + 20 * q + 1 + 1 + 1 + 1) rfl rfl hB rfl Tryz.call82 rfl (some_T 1000 (by rfl) (by decide) (by decide) (AllS.cons (LkG.getD hok i).nozzle (AllS.cons (by decide) AllS.nil))) (by omega) ?_
              rintro _ ⟨r86, hr86, rfl⟩
              have hh := hS1 r79 hr79 r86 hr86
              rw [hF] at hh
              exact VA.to hh (by decide +kernel) (Le.mk hB [0] ⟨rfl, rfl, rfl, rfl, rfl, rfl, rfl, rfl, rfl, rfl, rfl, rfl, rfl, rfl, rfl, rfl, trivial⟩ rfl rfl (Nat.le_refl _))
            have hS4 : ∀ (r79 : ByteArray) (hr79 : r79.size ≤ 1000), F 12 (lstB 33 [0, 1, 2, 3, 4, 5, 6, 7, 8, 9, 10, 11, 12, 13, 14, 15, 17, 18, 19, 20, 21]) ⟨[(0, sp p), (73, sp p), (80, sp p), (87, sp p), (70, (pL gr (0 + i * 8))), (71, (pL gr (0 + i * 8))), (72, (pL gr (0 + i * 8))), (77, avS (xL l i).machine), (84, avS (xL l i).nozzle), (91, avS (xL l i).reel), (5, .v (.slice (some ⟨gr, 0, none⟩) l.length cap)), (78, (iL 2 [avS (xL l i).machine, avS ⟨#[]⟩])), (79, avS r79), (85, (iL 2 [avS (xL l i).nozzle, avS ⟨#[65]⟩]))], [.box gr ⟨rowL l, 80, cap * 8⟩], k + 20 * q + 1 + 1 + 1 + 1⟩ := by
              intro r79 hr79
              rw [hF]
              refine VA.all (rs := [16, 22]) (by decide +kernel) (by decide) ?_
              refine ⟨⟨_, rfl, .inl rfl, ?_⟩, ⟨_, rfl, .inl rfl, ?_⟩, trivial⟩
              ·
                refine OpE.callT' (k + 20 * q + 1 + 1 + 1 + 1) rfl rfl hB rfl Tryz.call82 rfl (some_T 1000 (by rfl) (by decide) (by decide) (AllS.cons (LkG.getD hok i).nozzle (AllS.cons (by decide) AllS.nil))) (by omega) ?_
                rintro _ ⟨r86, hr86, rfl⟩
                have hh := hS2 r79 hr79 r86 hr86
                rw [hF] at hh
                exact VA.to hh (by decide +kernel) (Le.mk hB [0] ⟨rfl, rfl, rfl, rfl, rfl, rfl, rfl, rfl, rfl, rfl, rfl, rfl, rfl, rfl, rfl, trivial⟩ rfl rfl (Nat.le_refl _))
              ·
                refine OpE.buildSlice (zc := #[.string ⟨#[]⟩, .string ⟨#[]⟩]) rfl hB rfl Tryz.underlying29 Tryz.sizeOf9 Tryz.zeroValue9 (by decide) (by decide) (by kernel_rfl) rfl rfl ?_
                have hh := hS3 r79 hr79
                rw [hF] at hh
                exact VA.to hh (by decide +kernel) (Le.mk hB [0] ⟨rfl, rfl, rfl, rfl, rfl, rfl, rfl, rfl, rfl, rfl, rfl, rfl, rfl, rfl, rfl, trivial⟩ rfl rfl (Nat.le_refl _))
            have hS5 : ∀ (r79 : ByteArray) (hr79 : r79.size ≤ 1000), F 12 (lstB 33 [0, 1, 2, 3, 4, 5, 6, 7, 8, 9, 10, 11, 12, 13, 14, 17, 18, 19, 20, 21, 22]) ⟨[(0, sp p), (73, sp p), (80, sp p), (87, sp p), (70, (pL gr (0 + i * 8))), (71, (pL gr (0 + i * 8))), (72, (pL gr (0 + i * 8))), (77, avS (xL l i).machine), (84, avS (xL l i).nozzle), (91, avS (xL l i).reel), (5, .v (.slice (some ⟨gr, 0, none⟩) l.length cap)), (78, (iL 2 [avS (xL l i).machine, avS ⟨#[]⟩])), (79, avS r79), (92, (iL 2 [avS (xL l i).reel, avS ⟨#[]⟩]))], [.box gr ⟨rowL l, 80, cap * 8⟩], k + 20 * q + 1 + 1 + 1 + 1⟩ := by
              intro r79 hr79
              rw [hF]
              refine VA.all (rs := [15]) (by decide +kernel) (by decide) ?_
              refine ⟨⟨_, rfl, .inl rfl, ?_⟩, trivial⟩
              refine OpE.buildSlice (zc := #[.string ⟨#[]⟩, .string ⟨#[]⟩]) rfl hB rfl Tryz.underlying29 Tryz.sizeOf9 Tryz.zeroValue9 (by decide) (by decide) (by kernel_rfl) rfl rfl ?_
              have hh := hS3 r79 hr79
              rw [hF] at hh
              exact VA.to hh (by decide +kernel) (Le.mk hB [0] ⟨rfl, rfl, rfl, rfl, rfl, rfl, rfl, rfl, rfl, rfl, rfl, rfl, rfl, rfl, rfl, trivial⟩ rfl rfl (Nat.le_refl _))
            have hS6 : F 12 (lstB 33 [0, 1, 2, 3, 4, 5, 6, 7, 8, 10, 11, 12, 13, 14, 15, 17, 18, 19, 20, 21, 22]) ⟨[(0, sp p), (73, sp p), (80, sp p), (87, sp p), (70, (pL gr (0 + i * 8))), (71, (pL gr (0 + i * 8))), (72, (pL gr (0 + i * 8))), (77, avS (xL l i).machine), (84, avS (xL l i).nozzle), (91, avS (xL l i).reel), (5, .v (.slice (some ⟨gr, 0, none⟩) l.length cap)), (78, (iL 2 [avS (xL l i).machine, avS ⟨#[]⟩])), (85, (iL 2 [avS (xL l i).nozzle, avS ⟨#[65]⟩])), (92, (iL 2 [avS (xL l i).reel, avS ⟨#[]⟩]))], [.box gr ⟨rowL l, 80, cap * 8⟩], k + 20 * q + 1 + 1 + 1⟩ := by
              rw [hF]
              refine VA.all (rs := [9]) (by decide +kernel) (by decide) ?_
              refine ⟨⟨_, rfl, .inl rfl, ?_⟩, trivial⟩
              refine OpE.callT' (k + 20 * q + 1 + 1 + 1) rfl rfl hB rfl Tryz.call82 rfl (some_T 1000 (by rfl) (by decide) (by decide) (AllS.cons (LkG.getD hok i).machine (AllS.cons (by decide) AllS.nil))) (by omega) ?_
              rintro _ ⟨r79, hr79, rfl⟩
              have hh := hS3 r79 hr79
              rw [hF] at hh
              exact VA.to hh (by decide +kernel) (Le.mk hB [0] ⟨rfl, rfl, rfl, rfl, rfl, rfl, rfl, rfl, rfl, rfl, rfl, rfl, rfl, rfl, rfl, trivial⟩ rfl rfl (Nat.le_refl _))
            have hS7 : ∀ (r79 : ByteArray) (hr79 : r79.size ≤ 1000), F 13 (lstB 33 [0, 1, 2, 3, 4, 5, 6, 7, 8, 9, 10, 11, 12, 13, 14, 17, 18, 19, 20, 21]) ⟨[(0, sp p), (73, sp p), (80, sp p), (87, sp p), (70, (pL gr (0 + i * 8))), (71, (pL gr (0 + i * 8))), (72, (pL gr (0 + i * 8))), (77, avS (xL l i).machine), (84, avS (xL l i).nozzle), (91, avS (xL l i).reel), (5, .v (.slice (some ⟨gr, 0, none⟩) l.length cap)), (78, (iL 2 [avS (xL l i).machine, avS ⟨#[]⟩])), (79, avS r79)], [.box gr ⟨rowL l, 80, cap * 8⟩], k + 20 * q + 1 + 1 + 1 + 1⟩ := by
              intro r79 hr79
              rw [hF]
              refine VA.all (rs := [15, 22]) (by decide +kernel) (by decide) ?_
              refine ⟨⟨_, rfl, .inl rfl, ?_⟩, ⟨_, rfl, .inl rfl, ?_⟩, trivial⟩
              ·
                refine OpE.buildSlice (zc := #[.string ⟨#[]⟩, .string ⟨#[]⟩]) rfl hB rfl Tryz.underlying29 Tryz.sizeOf9 Tryz.zeroValue9 (by decide) (by decide) (by kernel_rfl) rfl rfl ?_
                have hh := hS4 r79 hr79
                rw [hF] at hh
                exact VA.to hh (by decide +kernel) (Le.mk hB [0] ⟨rfl, rfl, rfl, rfl, rfl, rfl, rfl, rfl, rfl, rfl, rfl, rfl, rfl, rfl, trivial⟩ rfl rfl (Nat.le_refl _))
              ·
                refine OpE.buildSlice (zc := #[.string ⟨#[]⟩, .string ⟨#[]⟩]) rfl hB rfl Tryz.underlying29 Tryz.sizeOf9 Tryz.zeroValue9 (by decide) (by decide) (by kernel_rfl) rfl rfl ?_
                have hh := hS5 r79 hr79
                rw [hF] at hh
                exact VA.to hh (by decide +kernel) (Le.mk hB [0] ⟨rfl, rfl, rfl, rfl, rfl, rfl, rfl, rfl, rfl, rfl, rfl, rfl, rfl, rfl, trivial⟩ rfl rfl (Nat.le_refl _))
            have hS8 : F 13 (lstB 33 [0, 1, 2, 3, 4, 5, 6, 7, 8, 10, 11, 12, 13, 14, 15, 17, 18, 19, 20, 21]) ⟨[(0, sp p), (73, sp p), (80, sp p), (87, sp p), (70, (pL gr (0 + i * 8))), (71, (pL gr (0 + i * 8))), (72, (pL gr (0 + i * 8))), (77, avS (xL l i).machine), (84, avS (xL l i).nozzle), (91, avS (xL l i).reel), (5, .v (.slice (some ⟨gr, 0, none⟩) l.length cap)), (78, (iL 2 [avS (xL l i).machine, avS ⟨#[]⟩])), (85, (iL 2 [avS (xL l i).nozzle, avS ⟨#[65]⟩]))], [.box gr ⟨rowL l, 80, cap * 8⟩], k + 20 * q + 1 + 1 + 1⟩ := by
              rw [hF]
              refine VA.all (rs := [9, 22]) (by decide +kernel) (by decide) ?_
              refine ⟨⟨_, rfl, .inl rfl, ?_⟩, ⟨_, rfl, .inl rfl, ?_⟩, trivial⟩
              ·
                refine OpE.callT' (k + 20 * q + 1 + 1 + 1) rfl rfl hB rfl Tryz.call82 rfl (some_T 1000 (by rfl) (by decide) (by decide) (AllS.cons (LkG.getD hok i).machine (AllS.cons (by decide) AllS.nil))) (by omega) ?_
                rintro _ ⟨r79, hr79, rfl⟩
                have hh := hS4 r79 hr79
                rw [hF] at hh
                exact VA.to hh (by decide +kernel) (Le.mk hB [0] ⟨rfl, rfl, rfl, rfl, rfl, rfl, rfl, rfl, rfl, rfl, rfl, rfl, rfl, rfl, trivial⟩ rfl rfl (Nat.le_refl _))
              ·
                refine OpE.buildSlice (zc := #[.string ⟨#[]⟩, .string ⟨#[]⟩]) rfl hB rfl Tryz.underlying29 Tryz.sizeOf9 Tryz.zeroValue9 (by decide) (by decide) (by kernel_rfl) rfl rfl ?_
                have hh := hS6 
                rw [hF] at hh
                exact VA.to hh (by decide +kernel) (Le.mk hB [0] ⟨rfl, rfl, rfl, rfl, rfl, rfl, rfl, rfl, rfl, rfl, rfl, rfl, rfl, rfl, trivial⟩ rfl rfl (Nat.le_refl _))
            have hS9 : F 13 (lstB 33 [0, 1, 2, 3, 4, 5, 6, 7, 8, 10, 11, 12, 13, 14, 17, 18, 19, 20, 21, 22]) ⟨[(0, sp p), (73, sp p), (80, sp p), (87, sp p), (70, (pL gr (0 + i * 8))), (71, (pL gr (0 + i * 8))), (72, (pL gr (0 + i * 8))), (77, avS (xL l i).machine), (84, avS (xL l i).nozzle), (91, avS (xL l i).reel), (5, .v (.slice (some ⟨gr, 0, none⟩) l.length cap)), (78, (iL 2 [avS (xL l i).machine, avS ⟨#[]⟩])), (92, (iL 2 [avS (xL l i).reel, avS ⟨#[]⟩]))], [.box gr ⟨rowL l, 80, cap * 8⟩], k + 20 * q + 1 + 1 + 1⟩ := by
              rw [hF]
              refine VA.all (rs := [9, 15]) (by decide +kernel) (by decide) ?_
              refine ⟨⟨_, rfl, .inl rfl, ?_⟩, ⟨_, rfl, .inl rfl, ?_⟩, trivial⟩
              ·
                refine OpE.callT' (k + 20 * q + 1 + 1 + 1) rfl rfl hB rfl Tryz.call82 rfl (some_T 1000 (by rfl) (by decide) (by decide) (AllS.cons (LkG.getD hok i).machine (AllS.cons (by decide) AllS.nil))) (by omega) ?_
                rintro _ ⟨r79, hr79, rfl⟩
                have hh := hS5 r79 hr79
                rw [hF] at hh
                exact VA.to hh (by decide +kernel) (Le.mk hB [0] ⟨rfl, rfl, rfl, rfl, rfl, rfl, rfl, rfl, rfl, rfl, rfl, rfl, rfl, rfl, trivial⟩ rfl rfl (Nat.le_refl _))
              ·
                refine OpE.buildSlice (zc := #[.string ⟨#[]⟩, .string ⟨#[]⟩]) rfl hB rfl Tryz.underlying29 Tryz.sizeOf9 Tryz.zeroValue9 (by decide) (by decide) (by kernel_rfl) rfl rfl ?_
                have hh := hS6 
                rw [hF] at hh
                exact VA.to hh (by decide +kernel) (Le.mk hB [0] ⟨rfl, rfl, rfl, rfl, rfl, rfl, rfl, rfl, rfl, rfl, rfl, rfl, rfl, rfl, trivial⟩ rfl rfl (Nat.le_refl _))
            have hS10 : F 13 (lstB 33 [0, 1, 2, 3, 4, 5, 6, 7, 10, 11, 12, 13, 14, 15, 17, 18, 19, 20, 21, 22]) ⟨[(0, sp p), (73, sp p), (80, sp p), (87, sp p), (70, (pL gr (0 + i * 8))), (71, (pL gr (0 + i * 8))), (72, (pL gr (0 + i * 8))), (77, avS (xL l i).machine), (84, avS (xL l i).nozzle), (91, avS (xL l i).reel), (5, .v (.slice (some ⟨gr, 0, none⟩) l.length cap)), (85, (iL 2 [avS (xL l i).nozzle, avS ⟨#[65]⟩])), (92, (iL 2 [avS (xL l i).reel, avS ⟨#[]⟩]))], [.box gr ⟨rowL l, 80, cap * 8⟩], k + 20 * q + 1 + 1 + 1⟩ := by
              rw [hF]
              refine VA.all (rs := [8]) (by decide +kernel) (by decide) ?_
              refine ⟨⟨_, rfl, .inl rfl, ?_⟩, trivial⟩
              refine OpE.buildSlice (zc := #[.string ⟨#[]⟩, .string ⟨#[]⟩]) rfl hB rfl Tryz.underlying29 Tryz.sizeOf9 Tryz.zeroValue9 (by decide) (by decide) (by kernel_rfl) rfl rfl ?_
              have hh := hS6 
              rw [hF] at hh
              exact VA.to hh (by decide +kernel) (Le.mk hB [0] ⟨rfl, rfl, rfl, rfl, rfl, rfl, rfl, rfl, rfl, rfl, rfl, rfl, rfl, rfl, trivial⟩ rfl rfl (Nat.le_refl _))
            have hS11 : F 14 (lstB 33 [0, 1, 2, 3, 4, 5, 6, 7, 8, 10, 11, 12, 13, 14, 17, 18, 19, 20, 21]) ⟨[(0, sp p), (73, sp p), (80, sp p), (87, sp p), (70, (pL gr (0 + i * 8))), (71, (pL gr (0 + i * 8))), (72, (pL gr (0 + i * 8))), (77, avS (xL l i).machine), (84, avS (xL l i).nozzle), (91, avS (xL l i).reel), (5, .v (.slice (some ⟨gr, 0, none⟩) l.length cap)), (78, (iL 2 [avS (xL l i).machine, avS ⟨#[]⟩]))], [.box gr ⟨rowL l, 80, cap * 8⟩], k + 20 * q + 1 + 1 + 1⟩ := by
              rw [hF]
              refine VA.all (rs := [9, 15, 22]) (by decide +kernel) (by decide) ?_
              refine ⟨⟨_, rfl, .inl rfl, ?_⟩, ⟨_, rfl, .inl rfl, ?_⟩, ⟨_, rfl, .inl rfl, ?_⟩, trivial⟩
              ·
                refine OpE.callT' (k + 20 * q + 1 + 1 + 1) rfl rfl hB rfl Tryz.call82 rfl (some_T 1000 (by rfl) (by decide) (by decide) (AllS.cons (LkG.getD hok i).machine (AllS.cons (by decide) AllS.nil))) (by omega) ?_
                rintro _ ⟨r79, hr79, rfl⟩
                have hh := hS7 r79 hr79
                rw [hF] at hh
                exact VA.to hh (by decide +kernel) (Le.mk hB [0] ⟨rfl, rfl, rfl, rfl, rfl, rfl, rfl, rfl, rfl, rfl, rfl, rfl, rfl, trivial⟩ rfl rfl (Nat.le_refl _))
              ·
                refine OpE.buildSlice (zc := #[.string ⟨#[]⟩, .string ⟨#[]⟩]) rfl hB rfl Tryz.underlying29 Tryz.sizeOf9 Tryz.zeroValue9 (by decide) (by decide) (by kernel_rfl) rfl rfl ?_
                have hh := hS8 
                rw [hF] at hh
                exact VA.to hh (by decide +kernel) (Le.mk hB [0] ⟨rfl, rfl, rfl, rfl, rfl, rfl, rfl, rfl, rfl, rfl, rfl, rfl, rfl, trivial⟩ rfl rfl (Nat.le_refl _))
              ·
                refine OpE.buildSlice (zc := #[.string ⟨#[]⟩, .string ⟨#[]⟩]) rfl hB rfl Tryz.underlying29 Tryz.sizeOf9 Tryz.zeroValue9 (by decide) (by decide) (by kernel_rfl) rfl rfl ?_
                have hh := hS9 
                rw [hF] at hh
                exact VA.to hh (by decide +kernel) (Le.mk hB [0] ⟨rfl, rfl, rfl, rfl, rfl, rfl, rfl, rfl, rfl, rfl, rfl, rfl, rfl, trivial⟩ rfl rfl (Nat.le_refl _))
            have hS12 : F 14 (lstB 33 [0, 1, 2, 3, 4, 5, 6, 7, 10, 11, 12, 13, 14, 15, 17, 18, 19, 20, 21]) ⟨[(0, sp p), (73, sp p), (80, sp p), (87, sp p), (70, (pL gr (0 + i * 8))), (71, (pL gr (0 + i * 8))), (72, (pL gr (0 + i * 8))), (77, avS (xL l i).machine), (84, avS (xL l i).nozzle), (91, avS (xL l i).reel), (5, .v (.slice (some ⟨gr, 0, none⟩) l.length cap)), (85, (iL 2 [avS (xL l i).nozzle, avS ⟨#[65]⟩]))], [.box gr ⟨rowL l, 80, cap * 8⟩], k + 20 * q + 1 + 1 + 1⟩ := by
              rw [hF]
              refine VA.all (rs := [8, 22]) (by decide +kernel) (by decide) ?_
              refine ⟨⟨_, rfl, .inl rfl, ?_⟩, ⟨_, rfl, .inl rfl, ?_⟩, trivial⟩
              ·
                refine OpE.buildSlice (zc := #[.string ⟨#[]⟩, .string ⟨#[]⟩]) rfl hB rfl Tryz.underlying29 Tryz.sizeOf9 Tryz.zeroValue9 (by decide) (by decide) (by kernel_rfl) rfl rfl ?_
                have hh := hS8 
                rw [hF] at hh
                exact VA.to hh (by decide +kernel) (Le.mk hB [0] ⟨rfl, rfl, rfl, rfl, rfl, rfl, rfl, rfl, rfl, rfl, rfl, rfl, rfl, trivial⟩ rfl rfl (Nat.le_refl _))
              ·
                refine OpE.buildSlice (zc := #[.string ⟨#[]⟩, .string ⟨#[]⟩]) rfl hB rfl Tryz.underlying29 Tryz.sizeOf9 Tryz.zeroValue9 (by decide) (by decide) (by kernel_rfl) rfl rfl ?_
                have hh := hS10 
                rw [hF] at hh
                exact VA.to hh (by decide +kernel) (Le.mk hB [0] ⟨rfl, rfl, rfl, rfl, rfl, rfl, rfl, rfl, rfl, rfl, rfl, rfl, rfl, trivial⟩ rfl rfl (Nat.le_refl _))
            have hS13 : F 14 (lstB 33 [0, 1, 2, 3, 4, 5, 6, 7, 10, 11, 12, 13, 14, 17, 18, 19, 20, 21, 22]) ⟨[(0, sp p), (73, sp p), (80, sp p), (87, sp p), (70, (pL gr (0 + i * 8))), (71, (pL gr (0 + i * 8))), (72, (pL gr (0 + i * 8))), (77, avS (xL l i).machine), (84, avS (xL l i).nozzle), (91, avS (xL l i).reel), (5, .v (.slice (some ⟨gr, 0, none⟩) l.length cap)), (92, (iL 2 [avS (xL l i).reel, avS ⟨#[]⟩]))], [.box gr ⟨rowL l, 80, cap * 8⟩], k + 20 * q + 1 + 1 + 1⟩ := by
              rw [hF]
              refine VA.all (rs := [8, 15]) (by decide +kernel) (by decide) ?_
              refine ⟨⟨_, rfl, .inl rfl, ?_⟩, ⟨_, rfl, .inl rfl, ?_⟩, trivial⟩
              ·
                refine OpE.buildSlice (zc := #[.string ⟨#[]⟩, .string ⟨#[]⟩]) rfl hB rfl Tryz.underlying29 Tryz.sizeOf9 Tryz.zeroValue9 (by decide) (by decide) (by kernel_rfl) rfl rfl ?_
                have hh := hS9 
                rw [hF] at hh
                exact VA.to hh (by decide +kernel) (Le.mk hB [0] ⟨rfl, rfl, rfl, rfl, rfl, rfl, rfl, rfl, rfl, rfl, rfl, rfl, rfl, trivial⟩ rfl rfl (Nat.le_refl _))
              ·
                refine OpE.buildSlice (zc := #[.string ⟨#[]⟩, .string ⟨#[]⟩]) rfl hB rfl Tryz.underlying29 Tryz.sizeOf9 Tryz.zeroValue9 (by decide) (by decide) (by kernel_rfl) rfl rfl ?_
                have hh := hS10 
                rw [hF] at hh
                exact VA.to hh (by decide +kernel) (Le.mk hB [0] ⟨rfl, rfl, rfl, rfl, rfl, rfl, rfl, rfl, rfl, rfl, rfl, rfl, rfl, trivial⟩ rfl rfl (Nat.le_refl _))
            have hS14 : F 15 (lstB 33 [0, 1, 2, 3, 4, 5, 6, 7, 10, 11, 12, 13, 14, 17, 18, 19, 20, 21]) ⟨[(0, sp p), (73, sp p), (80, sp p), (87, sp p), (70, (pL gr (0 + i * 8))), (71, (pL gr (0 + i * 8))), (72, (pL gr (0 + i * 8))), (77, avS (xL l i).machine), (84, avS (xL l i).nozzle), (91, avS (xL l i).reel), (5, .v (.slice (some ⟨gr, 0, none⟩) l.length cap))], [.box gr ⟨rowL l, 80, cap * 8⟩], k + 20 * q + 1 + 1 + 1⟩ := by
              rw [hF]
              refine VA.all (rs := [8, 15, 22]) (by decide +kernel) (by decide) ?_
              refine ⟨⟨_, rfl, .inl rfl, ?_⟩, ⟨_, rfl, .inl rfl, ?_⟩, ⟨_, rfl, .inl rfl, ?_⟩, trivial⟩
              ·
                refine OpE.buildSlice (zc := #[.string ⟨#[]⟩, .string ⟨#[]⟩]) rfl hB rfl Tryz.underlying29 Tryz.sizeOf9 Tryz.zeroValue9 (by decide) (by decide) (by kernel_rfl) rfl rfl ?_
                have hh := hS11 
                rw [hF] at hh
                exact VA.to hh (by decide +kernel) (Le.mk hB [0] ⟨rfl, rfl, rfl, rfl, rfl, rfl, rfl, rfl, rfl, rfl, rfl, rfl, trivial⟩ rfl rfl (Nat.le_refl _))
              ·
                refine OpE.buildSlice (zc := #[.string ⟨#[]⟩, .string ⟨#[]⟩]) rfl hB rfl Tryz.underlying29 Tryz.sizeOf9 Tryz.zeroValue9 (by decide) (by decide) (by kernel_rfl) rfl rfl ?_
                have hh := hS12 
                rw [hF] at hh
                exact VA.to hh (by decide +kernel) (Le.mk hB [0] ⟨rfl, rfl, rfl, rfl, rfl, rfl, rfl, rfl, rfl, rfl, rfl, rfl, trivial⟩ rfl rfl (Nat.le_refl _))
              ·
                refine OpE.buildSlice (zc := #[.string ⟨#[]⟩, .string ⟨#[]⟩]) rfl hB rfl Tryz.underlying29 Tryz.sizeOf9 Tryz.zeroValue9 (by decide) (by decide) (by kernel_rfl) rfl rfl ?_
                have hh := hS13 
                rw [hF] at hh
                exact VA.to hh (by decide +kernel) (Le.mk hB [0] ⟨rfl, rfl, rfl, rfl, rfl, rfl, rfl, rfl, rfl, rfl, rfl, rfl, trivial⟩ rfl rfl (Nat.le_refl _))
            rw [hF]
            have hh := hS14 
            rw [hF] at hh
            exact VA.to hh (by decide +kernel) (Le.mk hB [0] ⟨rfl, rfl, rfl, rfl, rfl, rfl, rfl, rfl, rfl, rfl, rfl, trivial⟩ rfl rfl (Nat.le_refl _))
      · have aH5 := aH5b
        try simp only [qqT, qqF, qqN, qqM, qqL, qqE] at aH5
        refine VC.skip ?_
        refine VC.sr ?_
        refine VO.mv rfl rfl rfl rfl ?_
        refine VO.ma rfl rfl rfl rfl ?_
        refine VO.nil ?_
        skip
        refine VC.ret ?_
        exact Exists.intro _ (And.intro (RetV.one Tryz.results31 (ResV.tmp rfl)) (And.intro (by first | exact ⟨l, _, ⟨by omega, hok⟩, rfl, rfl⟩ | exact ⟨_, _, ⟨by simp only [List.length_set]; omega, lk_s1 hok i hr110 hr117⟩, rfl, by simp only [List.length_set]; rfl⟩ | exact ⟨_, _, ⟨by simp only [List.length_set]; omega, lk_s2 hok i hr132⟩, rfl, by simp only [List.length_set]; rfl⟩ | exact ⟨_, _, ⟨by simp only [List.length_set]; omega, lk_s3 hok i hr79 hr86 hr93⟩, rfl, by simp only [List.length_set]; rfl⟩) ((show k + 20 * q + 1 ≤ k + 200 by omega))))
    · replace aK4b : _ = false := aK4b
      have aK4 := aK4b
      try simp only [qqT, qqF, qqN, qqM, qqL, qqE] at aK4
      refine VO.opX rfl rfl rfl rfl aK4b ?_
      refine VO.val rfl rfl (OpV.pickF rfl rfl rfl rfl aK4b) ?_
      refine VO.nil ?_
      refine VC.condF rfl rfl ?_
      refine VC.skip ?_
      refine VC.sr ?_
      refine VO.mv rfl rfl rfl rfl ?_
      refine VO.ma rfl rfl rfl rfl ?_
      refine VO.nil ?_
      skip
      refine VC.ret ?_
      exact Exists.intro _ (And.intro (RetV.one Tryz.results31 (ResV.tmp rfl)) (And.intro (by first | exact ⟨l, _, ⟨by omega, hok⟩, rfl, rfl⟩ | exact ⟨_, _, ⟨by simp only [List.length_set]; omega, lk_s1 hok i hr110 hr117⟩, rfl, by simp only [List.length_set]; rfl⟩ | exact ⟨_, _, ⟨by simp only [List.length_set]; omega, lk_s2 hok i hr132⟩, rfl, by simp only [List.length_set]; rfl⟩ | exact ⟨_, _, ⟨by simp only [List.length_set]; omega, lk_s3 hok i hr79 hr86 hr93⟩, rfl, by simp only [List.length_set]; rfl⟩) ((show k + 20 * q ≤ k + 200 by omega))))
set_option maxRecDepth 100000 in
set_option maxHeartbeats 4000000 in
theorem rightLooks_O {p : Nat} {L : List Int} {m : Nat} (hm : m ≤ 6) :
  SpecTO Tryz.prog (TT p L) (fun b => b = p) 45 [sp p, avI (m : Int)] 1300 (fun y hp' => ∃ (l : List LookS) (u : Value), (l.length ≤ 3 * m ∧ (∀ x ∈ l, LkG m x) ∧ lookF l = 0) ∧ y = .v u ∧ hp' = [.row u l.length 8 (rowL l) 80]) := by
 refine SpecTO.of_VC Tryz.func45 rfl Tryz.ntmps45 (Nle rfl) (low := (fun b => b ≤ p)) (fun w A k h => h.ok) fun w A k hk hB => ?_
 have hnew : True := trivial
 refine VC.sr ?_
 refine VO.ma rfl rfl rfl rfl ?_
 refine VO.nil ?_
 refine VC.seq ?_
 refine VC.sr ?_
 refine VO.mv rfl rfl rfl rfl ?_
 refine VO.nil ?_
 refine VC.block ?_
 refine VC.loopK [(0, _), (1, _)] ⟨rfl, rfl, trivial⟩ ({q : Nat // q ≤ 6}) (fun (iZ : {q : Nat // q ≤ 6}) => match iZ with | ⟨q, hq⟩ => [(6, avI (q : Int))]) (fun (iZ : {q : Nat // q ≤ 6}) => match iZ with | ⟨q, hq⟩ => []) (fun (iZ : {q : Nat // q ≤ 6}) => match iZ with | ⟨q, hq⟩ => k + 200 * q) (fun (iZ : {q : Nat // q ≤ 6}) => match iZ with | ⟨q, hq⟩ => 6 - q) ⟨0, by decide⟩ (Le.mk hB [] ⟨rfl, rfl, rfl, trivial⟩ rfl rfl (show k ≤ k + 200 * 0 by omega)) ?_
 rintro ⟨q, hq⟩
 show VC _ _ _ _ ⟨[(6, avI (q : Int))] ++ [(0, _), (1, _)], [], k + 200 * q⟩
 refine VC.sr ?_
 refine VO.val rfl rfl (OpV.lss rfl rfl rfl) ?_
 refine VO.nil ?_
 refine VC.seq ?_
 refine VC.cond rfl (fun aH1b => ?_) (fun aH1b => ?_)
 ·have aH1 := aH1b
  try simp only [qqT, qqF, qqN, qqM, qqL, qqE] at aH1
  refine VC.skip ?_
  refine VC.seq ?_
  refine VC.block ?_
  refine VC.sr ?_
  refine VO.mv rfl rfl rfl rfl ?_
  refine VO.mv rfl rfl rfl rfl ?_
  refine VO.op rfl (OpE.callTO (k + 200 * q) rfl rfl hB rfl Tryz.call31 rfl (looks_O hm) (by omega) ?_)
  rintro _ _ ⟨l, u, hl, rfl, rfl⟩
  refine VO.ma rfl rfl rfl rfl ?_
  refine VO.nil ?_
  refine VC.sr ?_
  refine VO.mv rfl rfl rfl rfl ?_
  refine VO.op rfl (OpE.callL rfl hB rfl Tryz.call36 (rf_LooksFault (LkG.sm hl.2 (by omega))) (ArgsP.cons (ArgP.rowT (i := 0) rfl rfl rfl) (ArgsP.nil)) ?_)
  rintro _ rfl
  refine VO.val rfl rfl (OpV.eql rfl rfl rfl) ?_
  refine VO.nil ?_
  refine VC.cond rfl (fun h1b => ?_) (fun h1b => ?_)
  ·have h1 := h1b
   try simp only [qqT, qqF, qqN, qqM, qqL, qqE] at h1
   refine VC.sr ?_
   refine VO.mv rfl rfl rfl rfl ?_
   refine VO.ma rfl rfl rfl rfl ?_
   refine VO.nil ?_
   refine VC.ret ?_
   exact Exists.intro _ (And.intro (RetV.one Tryz.results45 (ResV.tmp rfl)) (And.intro (⟨l, u, ⟨hl.1, hl.2, by omega⟩, rfl, rfl⟩) ((show k + 200 * q + 200 ≤ k + 1300 by omega))))
  ·have h1 := h1b
   try simp only [qqT, qqF, qqN, qqM, qqL, qqE] at h1
   refine VC.skip ?_
   refine VC.region ?_
   refine VO.val rfl rfl (OpV.add rfl rfl rfl (by unfold fits; omega)) ?_
   refine VO.mv rfl rfl rfl rfl ?_
   refine VO.nil ?_
   exact Exists.intro (⟨q + 1, by omega⟩) (And.intro (Le.mk hB [] ⟨rfl, rfl, rfl, trivial⟩ rfl rfl (show k + 200 * q + 200 ≤ k + 200 * (q + 1) by omega)) (by first | omega | (show _ < _; omega) | (simp only []; omega)))
 ·have aH1 := aH1b
  try simp only [qqT, qqF, qqN, qqM, qqL, qqE] at aH1
  refine VC.exit ?_
  refine VC.sr ?_
  refine VO.ma rfl rfl rfl rfl ?_
  refine VO.nil ?_
  refine VC.le _ (Le.nilRow 8 80) ?_
  refine VC.ret ?_
  exact Exists.intro _ (And.intro (RetV.one Tryz.results45 (ResV.tmp rfl)) (And.intro (⟨[], _, ⟨Nat.zero_le _, (fun x h => absurd h (by simp)), by decide⟩, rfl, rfl⟩) ((show k + 200 * q ≤ k + 1300 by omega))))
end Go.Proofs.YtdnlhdilpdeecaaGreatDoor
namespace Go.Proofs.YtdnlhdilpdeecaaGreatDoor
open Go.RowKit
set_option linter.unusedVariables false
set_option linter.unusedSimpArgs false

structure PaceS where
 product : ByteArray
 cycle : Int
 needs : List NeedS
instance : Inhabited PaceS := ⟨⟨ByteArray.empty, 0, []⟩⟩
instance : Sxc PaceS where
 k := 3
 pos := by decide
 cell m j := match j with
  | 0 => avS m.product
  | 1 => avI m.cycle
  | 2 => avL m.needs
  | _ => .any
structure OrdrS where
 key : ByteArray
 product : ByteArray
 count : Int
 ready : Int
 due : Int
instance : Inhabited OrdrS := ⟨⟨ByteArray.empty, ByteArray.empty, 0, 0, 0⟩⟩
instance : Sxc OrdrS where
 k := 5
 pos := by decide
 cell m j := match j with
  | 0 => avS m.key
  | 1 => avS m.product
  | 2 => avI m.count
  | 3 => avI m.ready
  | 4 => avI m.due
  | _ => .any
structure WinS where
 fr : Int
 to : Int
instance : Inhabited WinS := ⟨⟨0, 0⟩⟩
instance : Sxc WinS where
 k := 2
 pos := by decide
 cell m j := match j with
  | 0 => avI m.fr
  | 1 => avI m.to
  | _ => .any
abbrev avPc (x : PaceS) : AV := .agg [avS x.product, avI x.cycle, avL x.needs]
structure SmPc (p : List PaceS) : Prop where
 len : p.length ≤ 1000000
 prod : ∀ i, (p.getD i default).product.size ≤ 1000000
 nlen : ∀ i, (p.getD i default).needs.length ≤ 1000000
 nkey : ∀ i j, ((p.getD i default).needs.getD j default).key.size ≤ 1000000
structure SmOr (o : List OrdrS) : Prop where
 len : o.length ≤ 1000000
 key : ∀ i, (o.getD i default).key.size ≤ 1000000
 prod : ∀ i, (o.getD i default).product.size ≤ 1000000
def paceE (p : List PaceS) (i : Nat) : Int :=
 if keyF (p.getD i default).product = false then 5
 else if (decide (0 < i) && sLe (p.getD i default).product (p.getD (i - 1) default).product) = true then 7
 else if outR (p.getD i default).cycle 1 10000000 = true then 1
 else needsF (p.getD i default).needs 1 1000
def paceF (p : List PaceS) : Int := if 200 < p.length then 2 else firstE (paceE p) p.length
def ordrE (o : List OrdrS) (i : Nat) : Int :=
 if (keyF (o.getD i default).key && keyF (o.getD i default).product) = false then 5
 else if (outR (o.getD i default).count 1 100000 || (outR (o.getD i default).ready 0 345686399999 || outR (o.getD i default).due 0 345686399999)) = true then 1
 else if (decide (0 < i) && sLe (o.getD i default).key (o.getD (i - 1) default).key) = true then 7
 else 0
def ordrF (o : List OrdrS) : Int := if 200 < o.length then 2 else firstE (ordrE o) o.length
section
variable {p : List PaceS} {i : Nat}
theorem paceE_5 (h : keyF (p.getD i default).product = false) : paceE p i = 5 := by rw [paceE, if_pos h]
theorem paceE_7 (h : keyF (p.getD i default).product = true) (hi : 0 < i) (hs : sLe (p.getD i default).product (p.getD (i - 1) default).product = true) : paceE p i = 7 := by
 rw [paceE, if_neg (by rw [h]; simp), if_pos (by rw [hs, decide_eq_true hi]; rfl)]
theorem paceE_x (h : keyF (p.getD i default).product = true) (hs : i = 0 ∨ sLe (p.getD i default).product (p.getD (i - 1) default).product = false) :
  paceE p i = if outR (p.getD i default).cycle 1 10000000 = true then 1 else needsF (p.getD i default).needs 1 1000 := by
 rw [paceE, if_neg (by rw [h]; simp), if_neg]
 rcases hs with rfl | hs
 ·simp
 ·rw [hs]; simp
theorem paceE_1 (h : keyF (p.getD i default).product = true) (hs : i = 0 ∨ sLe (p.getD i default).product (p.getD (i - 1) default).product = false) (ho : outR (p.getD i default).cycle 1 10000000 = true) : paceE p i = 1 := by rw [paceE_x h hs, if_pos ho]
theorem paceE_n (h : keyF (p.getD i default).product = true) (hs : i = 0 ∨ sLe (p.getD i default).product (p.getD (i - 1) default).product = false) (ho : outR (p.getD i default).cycle 1 10000000 = false) : paceE p i = needsF (p.getD i default).needs 1 1000 := by rw [paceE_x h hs, if_neg (by rw [ho]; simp)]
theorem paceF_2 (h : 200 < p.length) : paceF p = 2 := by rw [paceF, if_pos h]
theorem paceF_at (h : p.length ≤ 200) {q : Nat} (hq : q < p.length) (hn : ∀ j, j < q → paceE p j = 0) {e : Int} (he : paceE p q = e) (h0 : e ≠ 0) : paceF p = e := by
 rw [paceF, if_neg (by omega), firstE_found hn (by rw [he]; exact h0) hq, he]
theorem paceF_ok (h : p.length ≤ 200) (hn : ∀ j, j < p.length → paceE p j = 0) : paceF p = 0 := by rw [paceF, if_neg (by omega), firstE_none hn]
end
section
variable {o : List OrdrS} {i : Nat}
theorem ordrE_5a (h : keyF (o.getD i default).key = false) : ordrE o i = 5 := by rw [ordrE, if_pos (by rw [h]; rfl)]
theorem ordrE_5b (h : keyF (o.getD i default).product = false) : ordrE o i = 5 := by rw [ordrE, if_pos (by rw [h, Bool.and_false])]
theorem ordrE_1 (h1 : keyF (o.getD i default).key = true) (h2 : keyF (o.getD i default).product = true) (ho : (outR (o.getD i default).count 1 100000 || (outR (o.getD i default).ready 0 345686399999 || outR (o.getD i default).due 0 345686399999)) = true) : ordrE o i = 1 := by
 rw [ordrE, if_neg (by rw [h1, h2]; simp), if_pos ho]
theorem ordrE_7 (h1 : keyF (o.getD i default).key = true) (h2 : keyF (o.getD i default).product = true) (ho : (outR (o.getD i default).count 1 100000 || (outR (o.getD i default).ready 0 345686399999 || outR (o.getD i default).due 0 345686399999)) = false) (hi : 0 < i) (hs : sLe (o.getD i default).key (o.getD (i - 1) default).key = true) : ordrE o i = 7 := by
 rw [ordrE, if_neg (by rw [h1, h2]; simp), if_neg (by rw [ho]; simp), if_pos (by rw [hs, decide_eq_true hi]; rfl)]
theorem ordrE_0 (h1 : keyF (o.getD i default).key = true) (h2 : keyF (o.getD i default).product = true) (ho : (outR (o.getD i default).count 1 100000 || (outR (o.getD i default).ready 0 345686399999 || outR (o.getD i default).due 0 345686399999)) = false) (hs : i = 0 ∨ sLe (o.getD i default).key (o.getD (i - 1) default).key = false) : ordrE o i = 0 := by
 rw [ordrE, if_neg (by rw [h1, h2]; simp), if_neg (by rw [ho]; simp), if_neg]
 rcases hs with rfl | hs
 ·simp
 ·rw [hs]; simp
theorem ordrF_2 (h : 200 < o.length) : ordrF o = 2 := by rw [ordrF, if_pos h]
theorem ordrF_at (h : o.length ≤ 200) {q : Nat} (hq : q < o.length) (hn : ∀ j, j < q → ordrE o j = 0) {e : Int} (he : ordrE o q = e) (h0 : e ≠ 0) : ordrF o = e := by
 rw [ordrF, if_neg (by omega), firstE_found hn (by rw [he]; exact h0) hq, he]
theorem ordrF_ok (h : o.length ≤ 200) (hn : ∀ j, j < o.length → ordrE o j = 0) : ordrF o = 0 := by rw [ordrF, if_neg (by omega), firstE_none hn]
end
def hasP (p : List PaceS) (k : ByteArray) : Bool := p.any fun x => sEq x.product k
def paceO (p : List PaceS) (k : ByteArray) : PaceS := (p.find? fun x => sEq x.product k).getD default
def bothF (p : List PaceS) (o : List OrdrS) : Int :=
 if paceF p ≠ 0 then paceF p else if ordrF o ≠ 0 then ordrF o else if o.all (fun x => hasP p x.product) = true then 0 else 8
theorem bothF_1 {p : List PaceS} {o : List OrdrS} (h : paceF p ≠ 0) : bothF p o = paceF p := by rw [bothF, if_pos h]
theorem bothF_2 {p : List PaceS} {o : List OrdrS} (h : paceF p = 0) (h2 : ordrF o ≠ 0) : bothF p o = ordrF o := by rw [bothF, if_neg (by omega), if_pos h2]
theorem bothF_3 {p : List PaceS} {o : List OrdrS} (h : paceF p = 0) (h2 : ordrF o = 0) : bothF p o = if o.all (fun x => hasP p x.product) = true then 0 else 8 := by rw [bothF, if_neg (by omega), if_neg (by omega)]
theorem bothF_0 {p : List PaceS} {o : List OrdrS} (h : bothF p o = 0) : paceF p = 0 ∧ ordrF o = 0 ∧ o.all (fun x => hasP p x.product) = true := by
 unfold bothF at h
 split at h
 ·contradiction
 ·split at h
  ·contradiction
  ·split at h
   ·rename_i h1 h2 h3; exact ⟨by simpa using h1, by simpa using h2, h3⟩
   ·cases h
structure PacesOk (p : List PaceS) : Prop where
 len : p.length ≤ 200
 all : ∀ j, j < p.length → paceE p j = 0
theorem pacesOk {p : List PaceS} (h : paceF p = 0) : PacesOk p := by
 unfold paceF at h
 split at h
 ·cases h
 ·exact ⟨by omega, firstE_zero h⟩
structure OrdrsOk (o : List OrdrS) : Prop where
 len : o.length ≤ 200
 all : ∀ j, j < o.length → ordrE o j = 0
theorem ordrsOk {o : List OrdrS} (h : ordrF o = 0) : OrdrsOk o := by
 unfold ordrF at h
 split at h
 ·cases h
 ·exact ⟨by omega, firstE_zero h⟩
theorem paceE_zero {p : List PaceS} {i : Nat} (h : paceE p i = 0) : keyF (p.getD i default).product = true ∧ (0 < i → sLe (p.getD i default).product (p.getD (i - 1) default).product = false) ∧ (1 ≤ (p.getD i default).cycle ∧ (p.getD i default).cycle ≤ 10000000) ∧ needsF (p.getD i default).needs 1 1000 = 0 := by
 unfold paceE at h
 split at h
 ·cases h
 ·rename_i h1
  split at h
  ·cases h
  ·rename_i h2
   split at h
   ·cases h
   ·rename_i h3
    refine ⟨by simpa using h1, fun hi => ?_, ?_, h⟩
    ·rw [decide_eq_true hi, Bool.true_and] at h2
     simpa using h2
    ·simp only [outR, Bool.or_eq_true, decide_eq_true_eq, not_or] at h3
     omega
theorem ordrE_zero {o : List OrdrS} {i : Nat} (h : ordrE o i = 0) : (keyF (o.getD i default).key = true ∧ keyF (o.getD i default).product = true) ∧ (0 < i → sLe (o.getD i default).key (o.getD (i - 1) default).key = false) ∧ (1 ≤ (o.getD i default).count ∧ (o.getD i default).count ≤ 100000) ∧ (0 ≤ (o.getD i default).ready ∧ (o.getD i default).ready ≤ 345686399999) ∧ (0 ≤ (o.getD i default).due ∧ (o.getD i default).due ≤ 345686399999) := by
 unfold ordrE at h
 split at h
 ·cases h
 ·rename_i h1
  split at h
  ·cases h
  ·rename_i h2
   split at h
   ·cases h
   ·rename_i h3
    have h1' : (keyF (o.getD i default).key && keyF (o.getD i default).product) = true := by simpa using h1
    rw [Bool.and_eq_true] at h1'
    simp only [outR, Bool.or_eq_true, decide_eq_true_eq, not_or] at h2
    refine ⟨h1', fun hi => ?_, by omega, by omega, by omega⟩
    rw [decide_eq_true hi, Bool.true_and] at h3
    simpa using h3
def chgN (a b : List NeedS) (q : Nat) : Nat := ((b.take q).filter fun x => !(a.any fun y => sEq y.key x.key)).length
theorem chgN_le (a b : List NeedS) (q : Nat) : chgN a b q ≤ b.length := by
 unfold chgN
 have := List.length_filter_le (fun x => !(a.any fun y => sEq y.key x.key)) (b.take q)
 rw [List.length_take] at this
 omega
theorem chgN_t {a b : List NeedS} {q : Nat} (h : q < b.length) (hx : a.any (fun y => sEq y.key (b.getD q default).key) = false) : chgN a b (q + 1) = chgN a b q + 1 := by
 unfold chgN
 rw [List.take_add_one, List.getElem?_eq_getElem h, List.filter_append, List.length_append]
 have : b.getD q default = b[q] := by rw [List.getD_eq_getElem?_getD, List.getElem?_eq_getElem h]; rfl
 rw [this] at hx
 simp [hx]
theorem chgN_f {a b : List NeedS} {q : Nat} (h : q < b.length) (hx : a.any (fun y => sEq y.key (b.getD q default).key) = true) : chgN a b (q + 1) = chgN a b q := by
 unfold chgN
 rw [List.take_add_one, List.getElem?_eq_getElem h, List.filter_append, List.length_append]
 have : b.getD q default = b[q] := by rw [List.getD_eq_getElem?_getD, List.getElem?_eq_getElem h]; rfl
 rw [this] at hx
 simp [hx]
def chgI (a b : PaceS) (each : Int) : Int := each * (chgN a.needs b.needs b.needs.length : Int)
def schF (n : Nat) (l : List Int) : Int := if l.length = n ∧ l.Nodup ∧ (∀ x ∈ l, 0 ≤ x ∧ x < n) then 0 else 3
def startF (start each : Int) : Int := if (outR start 0 345686399999 || outR each 0 10000000) = true then 1 else 0
def scheF (p : List PaceS) (o : List OrdrS) (l : List Int) (start each : Int) : Int :=
 if bothF p o ≠ 0 then bothF p o else if schF o.length l ≠ 0 then schF o.length l else startF start each
def longO (p : List PaceS) (x : OrdrS) : Int := (paceO p x.product).cycle * x.count
def turnO (p : List PaceS) (each : Int) (x y : OrdrS) : Int := chgI (paceO p x.product) (paceO p y.product) each
structure ResS where
 late : Int
 many : Int
 en : Int
section
variable (p : List PaceS) (o : List OrdrS) (l : List Int) (start each : Int)
abbrev orA (i : Int) : OrdrS := o.getD i.toNat default
def endP : Nat → Int
 | 0 => max start (orA o (l.getD 0 0)).ready + longO p (orA o (l.getD 0 0))
 | q + 1 => max (endP q + turnO p each (orA o (l.getD q 0)) (orA o (l.getD (q + 1) 0))) (orA o (l.getD (q + 1) 0)).ready + longO p (orA o (l.getD (q + 1) 0))
def fromP : Nat → Int
 | 0 => max start (orA o (l.getD 0 0)).ready
 | q + 1 => max (endP p o l start each q + turnO p each (orA o (l.getD q 0)) (orA o (l.getD (q + 1) 0))) (orA o (l.getD (q + 1) 0)).ready
def winP (q : Nat) : WinS := ⟨fromP p o l start each q, endP p o l start each q⟩
theorem endP_from (q : Nat) : endP p o l start each q = fromP p o l start each q + longO p (orA o (l.getD q 0)) := by cases q <;> rfl
def resP : Nat → ResS
 | 0 => ⟨0, 0, start⟩
 | q + 1 => if (orA o (l.getD q 0)).due < endP p o l start each q
   then ⟨(resP q).late + (endP p o l start each q - (orA o (l.getD q 0)).due), (resP q).many + 1, endP p o l start each q⟩
   else ⟨(resP q).late, (resP q).many, endP p o l start each q⟩
theorem resP_en (q : Nat) : (resP p o l start each (q + 1)).en = endP p o l start each q := by rw [resP]; split <;> rfl
def timesQ : Nat → List WinS
 | 0 => List.replicate o.length default
 | q + 1 => (timesQ q).set (l.getD q 0).toNat (winP p o l start each q)
theorem timesQ_len (q : Nat) : (timesQ p o l start each q).length = o.length := by
 induction q with
 | zero => simp [timesQ]
 | succ q ih => simp [timesQ, ih]
end
end Go.Proofs.YtdnlhdilpdeecaaGreatDoor
namespace Go.Proofs.YtdnlhdilpdeecaaGreatDoor
open Go.RowKit
set_option linter.unusedVariables false
set_option linter.unusedSimpArgs false
theorem pace_rise {p : List PaceS} (h : PacesOk p) : RiseK PaceS.product p := fun j h0 hj => (paceE_zero (h.all j hj)).2.1 h0
theorem needsF_lenP {l : List NeedS} {lo hi : Int} (h : needsF l lo hi = 0) : l.length ≤ 1000 := by
 unfold needsF at h
 split at h
 ·cases h
 ·omega
theorem paceO_in {p : List PaceS} {k : ByteArray} (h : hasP p k = true) : ∃ j, j < p.length ∧ paceO p k = p.getD j default := by
 unfold hasP at h
 cases hf : p.find? (fun x => sEq x.product k) with
 | none => rw [List.find?_eq_none] at hf; obtain ⟨x, hx, he⟩ := List.any_eq_true.1 h; exact absurd he (hf x hx)
 | some x =>
  obtain ⟨j, hj, e⟩ := List.getElem_of_mem (List.mem_of_find?_eq_some hf)
  refine ⟨j, hj, ?_⟩
  rw [paceO, hf, List.getD_eq_getElem?_getD, List.getElem?_eq_getElem hj, e]
theorem paceO_ok {p : List PaceS} (hp : PacesOk p) {k : ByteArray} (h : hasP p k = true) : (1 ≤ (paceO p k).cycle ∧ (paceO p k).cycle ≤ 10000000) ∧ (paceO p k).needs.length ≤ 1000 := by
 obtain ⟨j, hj, e⟩ := paceO_in h
 rw [e]
 have := paceE_zero (hp.all j hj)
 exact ⟨this.2.2.1, needsF_lenP this.2.2.2⟩
theorem paceO_sm {p : List PaceS} (hp : SmPc p) (k : ByteArray) : (paceO p k).needs.length ≤ 1000000 ∧ ∀ j, ((paceO p k).needs.getD j default).key.size ≤ 1000000 := by
 by_cases h : hasP p k = true
 ·obtain ⟨j, _, e⟩ := paceO_in h
  rw [e]; exact ⟨hp.nlen j, hp.nkey j⟩
 ·have : paceO p k = default := by
   unfold paceO
   exact find_none' (by simpa [hasP] using h)
  rw [this]
  exact ⟨by simp [default], fun j => by simp [default]⟩
theorem mul_bd {a b A B : Int} (h0 : 0 ≤ a) (h1 : a ≤ A) (h2 : 0 ≤ b) (h3 : b ≤ B) : 0 ≤ a * b ∧ a * b ≤ A * B :=
 ⟨Int.mul_nonneg h0 h2, Int.le_trans (Int.mul_le_mul_of_nonneg_right h1 h2) (Int.mul_le_mul_of_nonneg_left h3 (Int.le_trans h0 h1))⟩
structure OrdrsB (o : List OrdrS) : Prop where
 len : o.length ≤ 201
 all : ∀ j, j < o.length → (1 ≤ (o.getD j default).count ∧ (o.getD j default).count ≤ 100000) ∧ (0 ≤ (o.getD j default).ready ∧ (o.getD j default).ready ≤ 345686399999) ∧ (0 ≤ (o.getD j default).due ∧ (o.getD j default).due ≤ 345686399999)
theorem OrdrsOk.bd {o : List OrdrS} (h : OrdrsOk o) : OrdrsB o := ⟨by have := h.len; omega, fun j hj => (ordrE_zero (h.all j hj)).2.2⟩
structure SchOk (p : List PaceS) (o : List OrdrS) (l : List Int) (start each : Int) : Prop where
 pok : PacesOk p
 ook : OrdrsB o
 has : ∀ j, j < o.length → hasP p (o.getD j default).product = true
 len : l.length = o.length
 ord : Ord o.length l
 st : 0 ≤ start ∧ start ≤ 345686399999
 ea : 0 ≤ each ∧ each ≤ 10000000
theorem bothF_has {p : List PaceS} {o : List OrdrS} (h : bothF p o = 0) : ∀ j, j < o.length → hasP p (o.getD j default).product = true := fun j hj => by
 have := List.all_eq_true.1 (bothF_0 h).2.2 (o[j]) (List.getElem_mem hj)
 rwa [List.getD_eq_getElem?_getD, List.getElem?_eq_getElem hj]
theorem schF_0 {n : Nat} {l : List Int} (h : schF n l = 0) : l.length = n ∧ Ord n l := by
 unfold schF at h
 split at h
 ·rename_i h1; exact ⟨h1.1, h1.2.1, h1.2.2⟩
 ·cases h
theorem startF_0 {s e : Int} (h : startF s e = 0) : (0 ≤ s ∧ s ≤ 345686399999) ∧ (0 ≤ e ∧ e ≤ 10000000) := by
 unfold startF at h
 split at h
 ·cases h
 ·rename_i h1
  simp only [outR, Bool.or_eq_true, decide_eq_true_eq, not_or] at h1
  omega
theorem schOk {p : List PaceS} {o : List OrdrS} {l : List Int} {s e : Int} (h : scheF p o l s e = 0) : SchOk p o l s e := by
 unfold scheF at h
 split at h
 ·contradiction
 ·split at h
  ·contradiction
  ·rename_i h1 h2
   have h1' : bothF p o = 0 := by simpa using h1
   have h2' : schF o.length l = 0 := by simpa using h2
   have h3 := bothF_0 h1'
   have h4 := startF_0 h
   exact ⟨pacesOk h3.1, (ordrsOk h3.2.1).bd, bothF_has h1', (schF_0 h2').1, (schF_0 h2').2, h4.1, h4.2⟩
section
variable {p : List PaceS} {o : List OrdrS} {l : List Int} {start each : Int} (h : SchOk p o l start each)
include h
theorem SchOk.at_ {q : Nat} (hq : q < l.length) : 0 ≤ l.getD q 0 ∧ (l.getD q 0).toNat < o.length := by
 have := h.ord.lt (l[q]) (List.getElem_mem hq)
 rw [List.getD_eq_getElem?_getD, List.getElem?_eq_getElem hq]
 simp only [Option.getD_some]
 omega
theorem SchOk.long {i : Nat} (hi : i < o.length) : 0 ≤ longO p (o.getD i default) ∧ longO p (o.getD i default) ≤ 1000000000000 := by
 have h1 := (paceO_ok h.pok (h.has i hi)).1
 have h2 := (h.ook.all i hi).1
 have := mul_bd (by omega : 0 ≤ (paceO p (o.getD i default).product).cycle) h1.2 (by omega : 0 ≤ (o.getD i default).count) h2.2
 unfold longO
 omega
theorem SchOk.turn {i j : Nat} (hj : j < o.length) : 0 ≤ turnO p each (o.getD i default) (o.getD j default) ∧ turnO p each (o.getD i default) (o.getD j default) ≤ 10000000000 := by
 have h1 := (paceO_ok h.pok (h.has j hj)).2
 have h2 := chgN_le (paceO p (o.getD i default).product).needs (paceO p (o.getD j default).product).needs (paceO p (o.getD j default).product).needs.length
 have := mul_bd h.ea.1 h.ea.2 (by omega : (0 : Int) ≤ (chgN (paceO p (o.getD i default).product).needs (paceO p (o.getD j default).product).needs (paceO p (o.getD j default).product).needs.length : Int)) (by omega : _ ≤ (1000 : Int))
 unfold turnO chgI
 omega
theorem SchOk.bd : ∀ q, q < l.length → (0 ≤ fromP p o l start each q ∧ fromP p o l start each q ≤ endP p o l start each q) ∧ endP p o l start each q ≤ 345686400000 + (q + 1) * 1010000000000
 | 0, hq => by
  have h1 := h.at_ hq
  have h2 := h.long h1.2
  have h3 := (h.ook.all _ h1.2).2.1
  have h4 := h.st
  simp only [fromP, endP, orA]
  omega
 | q + 1, hq => by
  have h1 := h.at_ hq
  have h2 := h.long h1.2
  have h3 := (h.ook.all _ h1.2).2.1
  have h5 := SchOk.bd q (by omega)
  have h6 := h.turn (i := (l.getD q 0).toNat) h1.2
  simp only [fromP, endP, orA]
  omega
theorem SchOk.res : ∀ q, q ≤ l.length → (0 ≤ (resP p o l start each q).late ∧ (resP p o l start each q).late ≤ q * 300000000000000) ∧ (0 ≤ (resP p o l start each q).many ∧ (resP p o l start each q).many ≤ q) ∧ (0 ≤ (resP p o l start each q).en ∧ (resP p o l start each q).en ≤ 300000000000000)
 | 0, hq => by
  have h4 := h.st
  simp only [resP]
  omega
 | q + 1, hq => by
  have h1 := h.at_ (q := q) (by omega)
  have h3 := (h.ook.all _ h1.2).2.2
  have h5 := h.bd q (by omega)
  have h6 := SchOk.res q (by omega)
  have h7 := h.ook.len
  have h8 := h.len
  simp only [resP, orA]
  split
  ·rename_i hd
   simp only
   omega
  ·simp only
   omega
end
def schC (p : List PaceS) (o : List OrdrS) (each : Int) : Nat → AV
 | 0 => avL o
 | 1 => avInts (o.map (longO p))
 | _ => avM (o.map fun x => o.map (turnO p each x))
def schAV (p : List PaceS) (o : List OrdrS) (l : List Int) (start each : Int) : AV := if scheF p o l start each = 0 then .at_ 3 (schC p o each) else .v (.pointer none)
def timesR (p : List PaceS) (o : List OrdrS) (l : List Int) (start each : Int) : List WinS := if scheF p o l start each = 0 then timesQ p o l start each l.length else []
theorem scheF_1 {p : List PaceS} {o : List OrdrS} {l : List Int} {s e : Int} (h : bothF p o ≠ 0) : scheF p o l s e = bothF p o := by rw [scheF, if_pos h]
theorem scheF_2 {p : List PaceS} {o : List OrdrS} {l : List Int} {s e : Int} (h : bothF p o = 0) (h2 : schF o.length l ≠ 0) : scheF p o l s e = schF o.length l := by rw [scheF, if_neg (by omega), if_pos h2]
theorem scheF_3 {p : List PaceS} {o : List OrdrS} {l : List Int} {s e : Int} (h : bothF p o = 0) (h2 : schF o.length l = 0) : scheF p o l s e = startF s e := by rw [scheF, if_neg (by omega), if_neg (by omega)]
theorem schAV_no {p : List PaceS} {o : List OrdrS} {l : List Int} {s e : Int} (h : scheF p o l s e ≠ 0) : schAV p o l s e = .v (.pointer none) := by rw [schAV, if_neg h]
theorem schAV_ok {p : List PaceS} {o : List OrdrS} {l : List Int} {s e : Int} (h : scheF p o l s e = 0) : schAV p o l s e = .at_ 3 (schC p o e) := by rw [schAV, if_pos h]
theorem resP_t {p : List PaceS} {o : List OrdrS} {l : List Int} {s e : Int} {q : Nat} (h : (orA o (l.getD q 0)).due < endP p o l s e q) : resP p o l s e (q + 1) = ⟨(resP p o l s e q).late + (endP p o l s e q - (orA o (l.getD q 0)).due), (resP p o l s e q).many + 1, endP p o l s e q⟩ := by rw [resP, if_pos h]
theorem resP_f {p : List PaceS} {o : List OrdrS} {l : List Int} {s e : Int} {q : Nat} (h : ¬ (orA o (l.getD q 0)).due < endP p o l s e q) : resP p o l s e (q + 1) = ⟨(resP p o l s e q).late, (resP p o l s e q).many, endP p o l s e q⟩ := by rw [resP, if_neg h]
theorem map_getD {α β : Type} (f : α → β) {l : List α} {i : Nat} (h : i < l.length) (d : α) (e : β) : (l.map f).getD i e = f (l.getD i d) := by
 simp [List.getD_eq_getElem?_getD, h]
def runA {τ : Type} (step : τ → Int → WinS → τ) (p : List PaceS) (o : List OrdrS) (l : List Int) (start each : Int) (a : τ) : Nat → τ
 | 0 => a
 | q + 1 => step (runA step p o l start each a q) (l.getD q 0) (winP p o l start each q)
theorem runA_times (p : List PaceS) (o : List OrdrS) (l : List Int) (start each : Int) : ∀ q, runA (fun (a : List WinS) i w => a.set i.toNat w) p o l start each (List.replicate o.length default) q = timesQ p o l start each q
 | 0 => rfl
 | q + 1 => by rw [runA, runA_times p o l start each q]; rfl
def DoesW (n : Nat) {τ : Type} (K : τ → List Ent → Prop) (step : τ → Int → WinS → τ) (P : Program) (F : FuncId) (caps : Array Value) : Prop :=
 ∀ (i : Int) (w : WinS) (a : τ) (h : List Ent), 0 ≤ i → i.toNat < n → K a h →
  SpecH P F ([avI i, .agg [avI w.fr, avI w.to]] ++ caps.toList.map .v) h (fun y hp' => K (step a i w) hp')
theorem map_snoc {α β : Type} {l : List α} {q : Nat} (f : α → β) (h : q < l.length) (d : α) : (l.take (q + 1)).map f = (l.take q).map f ++ [f (l.getD q d)] := by
 rw [List.take_add_one, List.map_append, List.getD_eq_getElem?_getD, List.getElem?_eq_getElem h]; rfl
theorem Ord.take {n : Nat} {l : List Int} {q : Nat} (h : Ord n (l.take q)) (hq : q < l.length) (h0 : 0 ≤ l.getD q 0) (h1 : (l.getD q 0).toNat < n) (h2 : l.getD q 0 ∉ l.take q) : Ord n (l.take (q + 1)) := by
 have := h.snoc h1 (by rwa [Int.toNat_of_nonneg h0])
 rw [Int.toNat_of_nonneg h0] at this
 rw [List.take_add_one, List.getElem?_eq_getElem hq]
 rwa [List.getD_eq_getElem?_getD, List.getElem?_eq_getElem hq] at this
theorem schF_len {n : Nat} {l : List Int} (h : l.length ≠ n) : schF n l = 3 := by rw [schF, if_neg fun e => h e.1]
theorem schF_out {n : Nat} {l : List Int} {q : Nat} (hq : q < l.length) (h : l.getD q 0 < 0 ∨ (n : Int) ≤ l.getD q 0) : schF n l = 3 := by
 rw [schF, if_neg fun e => ?_]
 have := e.2.2 (l[q]) (List.getElem_mem hq)
 rw [List.getD_eq_getElem?_getD, List.getElem?_eq_getElem hq] at h
 simp only [Option.getD_some] at h
 omega
theorem schF_twice {n : Nat} {l : List Int} {q : Nat} (hq : q < l.length) (h : l.getD q 0 ∈ l.take q) : schF n l = 3 := by
 rw [schF, if_neg fun e => ?_]
 rw [List.getD_eq_getElem?_getD, List.getElem?_eq_getElem hq] at h
 simp only [Option.getD_some] at h
 obtain ⟨i, hi, he⟩ := List.getElem_of_mem h
 simp at hi
 rw [List.getElem_take] at he
 have := List.pairwise_iff_getElem.1 e.2.1 i q (by omega) hq (by omega)
 exact this he
theorem schF_ok {n : Nat} {l : List Int} (hl : l.length = n) (h : Ord n l) : schF n l = 0 := by rw [schF, if_pos ⟨hl, h.nd, h.lt⟩]
theorem usedL_take {n : Nat} {l : List Int} {q : Nat} (hq : q < l.length) (h0 : 0 ≤ l.getD q 0) (h1 : (l.getD q 0).toNat < n) : (usedL n (l.take q)).set (l.getD q 0).toNat (avB true) = usedL n (l.take (q + 1)) := by
 rw [usedL_set h1, Int.toNat_of_nonneg h0, List.take_add_one, List.getElem?_eq_getElem hq]
 rw [List.getD_eq_getElem?_getD, List.getElem?_eq_getElem hq]
 rfl
end Go.Proofs.YtdnlhdilpdeecaaGreatDoor
