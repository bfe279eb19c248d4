/- Part 3 of a proof: the walks and laws that it needs. -/
import Derived.Test.YtaaokimiadfidaaGreatDoorProg
import Derived.Shelf.Abstract
import Derived.Deep.QuietTactic
import Derived.BigQuiet
import Derived.BigRegion
import Derived.Deep.RegionLaw
import Derived.Deep.LoopGhost
import Derived.Deep.DeepCutAuto
import Derived.Test.YtaaokimiadfidaaGreatDoorZC2
namespace Go.Proofs.YtaaokimiadfidaaGreatDoor
open Go.RowKit
set_option linter.unusedVariables false
set_option linter.unusedSimpArgs false
set_option maxRecDepth 100000 in
theorem rf_signL {n : Int}  :
  SpecN Tryz.prog 185 [avI n] (fun y => y = avI (cmpI n 0)) := by
 refine SpecN.of_VCN Tryz.func185 rfl Tryz.ntmps185 (Nle rfl) fun w A hB => ?_
 have hnew : True := trivial
 refine VC.sr ?_
 refine VO.ma rfl rfl rfl rfl ?_
 refine VO.nil ?_
 refine VC.seq ?_
 refine VC.block ?_
 refine VC.sr ?_
 refine VO.mv rfl rfl rfl rfl ?_
 refine VO.val rfl rfl (OpV.lss rfl rfl rfl) ?_
 refine VO.ma rfl rfl rfl rfl ?_
 refine VO.nil ?_
 refine VC.cond rfl (fun aH1b => ?_) (fun aH1b => ?_)
 ·have aH1 := aH1b
  try simp only [qqT, qqF, qqN, qqM, qqL, qqE] at aH1
  refine VC.sr ?_
  refine VO.ma rfl rfl rfl rfl ?_
  refine VO.nil ?_
  refine VC.ret ?_
  exact Exists.intro _ (And.intro (RetN.one Tryz.results185 (ResN.v rfl)) (by unfold cmpI; first | rw [if_pos (by omega)] | rw [if_neg (by omega), if_pos (by omega)] | rw [if_neg (by omega), if_neg (by omega)]))
 ·have aH1 := aH1b
  try simp only [qqT, qqF, qqN, qqM, qqL, qqE] at aH1
  refine VC.sr ?_
  refine VO.mv rfl rfl rfl rfl ?_
  refine VO.val rfl rfl (OpV.gtr rfl rfl rfl) ?_
  refine VO.ma rfl rfl rfl rfl ?_
  refine VO.nil ?_
  refine VC.cond rfl (fun aH2b => ?_) (fun aH2b => ?_)
  ·have aH2 := aH2b
   try simp only [qqT, qqF, qqN, qqM, qqL, qqE] at aH2
   refine VC.sr ?_
   refine VO.ma rfl rfl rfl rfl ?_
   refine VO.nil ?_
   refine VC.ret ?_
   exact Exists.intro _ (And.intro (RetN.one Tryz.results185 (ResN.v rfl)) (by unfold cmpI; first | rw [if_pos (by omega)] | rw [if_neg (by omega), if_pos (by omega)] | rw [if_neg (by omega), if_neg (by omega)]))
  ·have aH2 := aH2b
   try simp only [qqT, qqF, qqN, qqM, qqL, qqE] at aH2
   refine VC.skip ?_
   refine VC.sr ?_
   refine VO.ma rfl rfl rfl rfl ?_
   refine VO.nil ?_
   refine VC.ret ?_
   exact Exists.intro _ (And.intro (RetN.one Tryz.results185 (ResN.v rfl)) (by unfold cmpI; first | rw [if_pos (by omega)] | rw [if_neg (by omega), if_pos (by omega)] | rw [if_neg (by omega), if_neg (by omega)]))
set_option maxRecDepth 100000 in
theorem rf_MomentL {n : Int}  :
  SpecN Tryz.prog 27 [avI n] (fun y => y = avB (decide (0 ≤ n) && decide (n ≤ 345686399999))) := by
 refine SpecN.of_VCN Tryz.func27 rfl Tryz.ntmps27 (Nle rfl) fun w A hB => ?_
 have hnew : True := trivial
 refine VC.sr ?_
 refine VO.ma rfl rfl rfl rfl ?_
 refine VO.nil ?_
 refine VC.sr ?_
 refine VO.mv rfl rfl rfl rfl ?_
 refine VO.op rfl (OpE.call rfl hB rfl Tryz.call120 rfl (SpecN.spec (rf_in)) ?_)
 rintro _ rfl
 refine VO.ma rfl rfl rfl rfl ?_
 refine VO.nil ?_
 refine VC.ret ?_
 exact Exists.intro _ (And.intro (RetN.one Tryz.results27 (ResN.v rfl)) (rfl))
theorem cmpI_sub (a b : Int) : cmpI (a - b) 0 = cmpI a b := by unfold cmpI; split <;> (try split) <;> (try split) <;> (try split) <;> omega
theorem cmpLk_1 {a b : LookS} (h : a.at_ ≠ b.at_) : cmpI (a.at_ - b.at_) 0 = cmpLk a b := by
 rw [cmpI_sub, cmpLk_eq, if_pos (fun e => h (cmpI_0.1 e))]
theorem cmpLk_2 {a b : LookS} (h : a.at_ = b.at_) (h2 : sEq a.board b.board = false) : cmpB a.board b.board = cmpLk a b := by
 rw [cmpLk_eq, if_neg (fun e => e (cmpI_0.2 h)), if_pos (fun e => by rw [sEq_eq.2 (cmpB_eq.1 e)] at h2; cases h2)]
theorem cmpLk_3 {a b : LookS} (h : a.at_ = b.at_) (h2 : sEq a.board b.board = true) : cmpB a.name b.name = cmpLk a b := by
 rw [cmpLk_eq, if_neg (fun e => e (cmpI_0.2 h)), if_neg (fun e => e (cmpB_eq.2 (sEq_eq.1 h2)))]
set_option maxRecDepth 100000 in
theorem rf_lookOrder {a b : LookS} (ha : 0 ≤ a.at_ ∧ a.at_ ≤ 345686399999) (hb : 0 ≤ b.at_ ∧ b.at_ ≤ 345686399999) :
  SpecN Tryz.prog 121 [avT a, avT b] (fun y => y = avI (cmpLk a b)) := by
 refine SpecN.of_VCN Tryz.func121 rfl Tryz.ntmps121 (Nle rfl) fun w A hB => ?_
 have hnew : True := trivial
 refine VC.sr ?_
 refine VO.op rfl (OpE.box rfl hB rfl rfl rfl ?_)
 intro g2
 refine VO.op rfl (OpE.box rfl hB rfl rfl rfl ?_)
 intro g3
 refine VO.ma rfl rfl rfl rfl ?_
 refine VO.nil ?_
 refine VC.seq ?_
 refine VC.block ?_
 refine VC.sr ?_
 refine VO.val rfl rfl (OpV.fieldAddrO 2 rfl Tryz.underlying33 rfl rfl Tryz.sizeOf3 rfl) ?_
 refine VO.val rfl rfl (OpV.load_own (i := 0) rfl hB Tryz.isAgg3 rfl rfl rfl (fun h => h)) ?_
 refine VO.val rfl rfl (OpV.fieldAddrO 2 rfl Tryz.underlying33 rfl rfl Tryz.sizeOf3 rfl) ?_
 refine VO.val rfl rfl (OpV.load_own (i := 1) rfl hB Tryz.isAgg3 rfl rfl rfl (fun h => h)) ?_
 refine VO.val rfl rfl (OpV.neq rfl rfl rfl) ?_
 refine VO.ma rfl rfl rfl rfl ?_
 refine VO.nil ?_
 refine VC.cond rfl (fun aH1b => ?_) (fun aH1b => ?_)
 ·have aH1 := aH1b
  try simp only [qqT, qqF, qqN, qqM, qqL, qqE] at aH1
  refine VC.sr ?_
  refine VO.val rfl rfl (OpV.fieldAddrO 2 rfl Tryz.underlying33 rfl rfl Tryz.sizeOf3 rfl) ?_
  refine VO.val rfl rfl (OpV.load_own (i := 0) rfl hB Tryz.isAgg3 rfl rfl rfl (fun h => h)) ?_
  refine VO.val rfl rfl (OpV.fieldAddrO 2 rfl Tryz.underlying33 rfl rfl Tryz.sizeOf3 rfl) ?_
  refine VO.val rfl rfl (OpV.load_own (i := 1) rfl hB Tryz.isAgg3 rfl rfl rfl (fun h => h)) ?_
  refine VO.val rfl rfl (OpV.sub rfl rfl rfl (by unfold fits; omega)) ?_
  refine VO.op rfl (OpE.call rfl hB rfl Tryz.call185 rfl (SpecN.spec (rf_signL)) ?_)
  rintro _ rfl
  refine VO.ma rfl rfl rfl rfl ?_
  refine VO.nil ?_
  refine VC.ret ?_
  exact Exists.intro _ (And.intro (RetN.one Tryz.results121 (ResN.v rfl)) (by first | rw [cmpLk_1 (by omega)] | rw [cmpLk_2 (by omega) (by first | assumption | (simp_all; done))] | rw [cmpLk_3 (by omega) (by first | assumption | (simp_all; done))]))
 ·have aH1 := aH1b
  try simp only [qqT, qqF, qqN, qqM, qqL, qqE] at aH1
  refine VC.sr ?_
  refine VO.val rfl rfl (OpV.fieldAddrO 0 rfl Tryz.underlying33 rfl rfl Tryz.sizeOf9 rfl) ?_
  refine VO.val rfl rfl (OpV.load_own (i := 0) rfl hB Tryz.isAgg9 rfl rfl rfl (fun h => h)) ?_
  refine VO.val rfl rfl (OpV.fieldAddrO 0 rfl Tryz.underlying33 rfl rfl Tryz.sizeOf9 rfl) ?_
  refine VO.val rfl rfl (OpV.load_own (i := 1) rfl hB Tryz.isAgg9 rfl rfl rfl (fun h => h)) ?_
  refine VO.val rfl rfl (OpV.sneq rfl rfl rfl) ?_
  refine VO.ma rfl rfl rfl rfl ?_
  refine VO.nil ?_
  refine VC.cond rfl (fun aH2b => ?_) (fun aH2b => ?_)
  ·have aH2 := aH2b
   try simp only [qqT, qqF, qqN, qqM, qqL, qqE] at aH2
   refine VC.sr ?_
   refine VO.val rfl rfl (OpV.fieldAddrO 0 rfl Tryz.underlying33 rfl rfl Tryz.sizeOf9 rfl) ?_
   refine VO.val rfl rfl (OpV.load_own (i := 0) rfl hB Tryz.isAgg9 rfl rfl rfl (fun h => h)) ?_
   refine VO.val rfl rfl (OpV.fieldAddrO 0 rfl Tryz.underlying33 rfl rfl Tryz.sizeOf9 rfl) ?_
   refine VO.val rfl rfl (OpV.load_own (i := 1) rfl hB Tryz.isAgg9 rfl rfl rfl (fun h => h)) ?_
   refine VO.op rfl (OpE.call rfl hB rfl Tryz.call150 rfl (SpecN.spec (strings_Compare_S)) ?_)
   rintro _ rfl
   refine VO.ma rfl rfl rfl rfl ?_
   refine VO.nil ?_
   refine VC.ret ?_
   exact Exists.intro _ (And.intro (RetN.one Tryz.results121 (ResN.v rfl)) (by first | rw [cmpLk_1 (by omega)] | rw [cmpLk_2 (by omega) (by first | assumption | (simp_all; done))] | rw [cmpLk_3 (by omega) (by first | assumption | (simp_all; done))]))
  ·have aH2 := aH2b
   try simp only [qqT, qqF, qqN, qqM, qqL, qqE] at aH2
   refine VC.skip ?_
   refine VC.sr ?_
   refine VO.val rfl rfl (OpV.fieldAddrO 1 rfl Tryz.underlying33 rfl rfl Tryz.sizeOf9 rfl) ?_
   refine VO.val rfl rfl (OpV.load_own (i := 0) rfl hB Tryz.isAgg9 rfl rfl rfl (fun h => h)) ?_
   refine VO.val rfl rfl (OpV.fieldAddrO 1 rfl Tryz.underlying33 rfl rfl Tryz.sizeOf9 rfl) ?_
   refine VO.val rfl rfl (OpV.load_own (i := 1) rfl hB Tryz.isAgg9 rfl rfl rfl (fun h => h)) ?_
   refine VO.op rfl (OpE.call rfl hB rfl Tryz.call150 rfl (SpecN.spec (strings_Compare_S)) ?_)
   rintro _ rfl
   refine VO.ma rfl rfl rfl rfl ?_
   refine VO.nil ?_
   refine VC.ret ?_
   exact Exists.intro _ (And.intro (RetN.one Tryz.results121 (ResN.v rfl)) (by first | rw [cmpLk_1 (by omega)] | rw [cmpLk_2 (by omega) (by first | assumption | (simp_all; done))] | rw [cmpLk_3 (by omega) (by first | assumption | (simp_all; done))]))
set_option maxRecDepth 100000 in
theorem rf_sameThing {a b : LookS}  :
  SpecN Tryz.prog 124 [avT a, avT b] (fun y => y = avB (sameT a b)) := by
 refine SpecN.of_VCN Tryz.func124 rfl Tryz.ntmps124 (Nle rfl) fun w A hB => ?_
 have hnew : True := trivial
 refine VC.sr ?_
 refine VO.op rfl (OpE.box rfl hB rfl rfl rfl ?_)
 intro g2
 refine VO.op rfl (OpE.box rfl hB rfl rfl rfl ?_)
 intro g3
 refine VO.ma rfl rfl rfl rfl ?_
 refine VO.nil ?_
 refine VC.sr ?_
 refine VO.val rfl rfl (OpV.fieldAddrO 0 rfl Tryz.underlying33 rfl rfl Tryz.sizeOf9 rfl) ?_
 refine VO.val rfl rfl (OpV.load_own (i := 0) rfl hB Tryz.isAgg9 rfl rfl rfl (fun h => h)) ?_
 refine VO.val rfl rfl (OpV.fieldAddrO 0 rfl Tryz.underlying33 rfl rfl Tryz.sizeOf9 rfl) ?_
 refine VO.val rfl rfl (OpV.load_own (i := 1) rfl hB Tryz.isAgg9 rfl rfl rfl (fun h => h)) ?_
 refine VO.val rfl rfl (OpV.seql rfl rfl rfl) ?_
 refine VO.mv rfl rfl rfl rfl ?_
 refine VO.opG rfl rfl rfl rfl (fun aK1b => ?_) (fun aK1b => ?_)
 ·replace aK1b : _ = true := aK1b
  have aK1 := aK1b
  try simp only [qqT, qqF, qqN, qqM, qqL, qqE] at aK1
  refine OpE.val (W := NoB) (OpV.fieldAddrO 1 rfl Tryz.underlying33 rfl rfl Tryz.sizeOf9 rfl) rfl ?_
  refine VO.opY rfl rfl rfl rfl aK1b ?_
  refine OpE.val (W := NoB) (OpV.load_own (i := 0) rfl hB Tryz.isAgg9 rfl rfl rfl (fun h => h)) rfl ?_
  refine VO.opY rfl rfl rfl rfl aK1b ?_
  refine OpE.val (W := NoB) (OpV.fieldAddrO 1 rfl Tryz.underlying33 rfl rfl Tryz.sizeOf9 rfl) rfl ?_
  refine VO.opY rfl rfl rfl rfl aK1b ?_
  refine OpE.val (W := NoB) (OpV.load_own (i := 1) rfl hB Tryz.isAgg9 rfl rfl rfl (fun h => h)) rfl ?_
  refine VO.opY rfl rfl rfl rfl aK1b ?_
  refine OpE.val (W := NoB) (OpV.seql rfl rfl rfl) rfl ?_
  refine VO.val rfl rfl (OpV.pickT rfl rfl rfl rfl aK1b) ?_
  refine VO.ma rfl rfl rfl rfl ?_
  refine VO.nil ?_
  refine VC.ret ?_
  exact Exists.intro _ (And.intro (RetN.one Tryz.results124 (ResN.v rfl)) (by unfold sameT; first | rfl | (simp_all; done)))
 ·replace aK1b : _ = false := aK1b
  have aK1 := aK1b
  try simp only [qqT, qqF, qqN, qqM, qqL, qqE] at aK1
  refine VO.opX rfl rfl rfl rfl aK1b ?_
  refine VO.opX rfl rfl rfl rfl aK1b ?_
  refine VO.opX rfl rfl rfl rfl aK1b ?_
  refine VO.opX rfl rfl rfl rfl aK1b ?_
  refine VO.val rfl rfl (OpV.pickF rfl rfl rfl rfl aK1b) ?_
  refine VO.ma rfl rfl rfl rfl ?_
  refine VO.nil ?_
  refine VC.ret ?_
  exact Exists.intro _ (And.intro (RetN.one Tryz.results124 (ResN.v rfl)) (by unfold sameT; first | rfl | (simp_all; done)))
set_option maxRecDepth 100000 in
theorem rf_LooksFault1 {x o : LookS}  :
  SpecN Tryz.prog 123 [avT o, .at_ 8 (Sxc.cell x)] (fun y => y = avB (sameT o x)) := by
 refine SpecN.of_VCN Tryz.func123 rfl Tryz.ntmps123 (Nle rfl) fun w A hB => ?_
 have hnew : True := trivial
 refine VC.sr ?_
 refine VO.op rfl (OpE.box rfl hB rfl rfl rfl ?_)
 intro g2
 refine VO.ma rfl rfl rfl rfl ?_
 refine VO.nil ?_
 refine VC.sr ?_
 refine VO.val rfl rfl (OpV.loadK_own (i := 0) rfl hB Tryz.isAgg33 Tryz.sizeOf33 rfl rfl rfl (fun h => h)) ?_
 refine VO.val rfl rfl (OpV.loadK_at rfl hB OutW.no Tryz.isAgg33 Tryz.sizeOf33 rfl rfl) ?_
 refine VO.op rfl (OpE.call rfl hB rfl Tryz.call124 rfl (SpecN.spec (rf_sameThing)) ?_)
 rintro _ rfl
 refine VO.ma rfl rfl rfl rfl ?_
 refine VO.nil ?_
 refine VC.ret ?_
 exact Exists.intro _ (And.intro (RetN.one Tryz.results123 (ResN.v rfl)) (rfl))
set_option maxRecDepth 100000 in
theorem slices_IndexFunc_lk {xs : List LookS} {F : FuncId} {cs : List AV} {p : LookS → Bool} (hl : xs.length ≤ 1000000000) (hcall : ∀ us w, (callFunc F us).run Tryz.prog w = .ok (.enter F us) w) (hF : ∀ x, Spec Tryz.prog F ([avT x] ++ cs) (fun y => y = avB (p x))) :
  SpecN Tryz.prog 236 [avL xs, .fn F cs] (fun y => y = avI (fidx p xs)) := by
 refine SpecN.of_VCN Tryz.func236 rfl Tryz.ntmps236 (Nle rfl) fun w A hB => ?_
 have hnew : True := trivial
 refine VC.sr ?_
 refine VO.ma rfl rfl rfl rfl ?_
 refine VO.nil ?_
 refine VC.seq ?_
 refine VC.sr ?_
 refine VO.mv rfl rfl rfl rfl ?_
 refine VO.val rfl rfl (OpV.len_im rfl Tryz.underlying26 rfl) ?_
 refine VO.mv rfl rfl rfl rfl ?_
 refine VO.nil ?_
 refine VC.block ?_
 refine VC.loopK [(0, _), (1, _), (7, _)] ⟨rfl, rfl, rfl, trivial⟩ ({q : Nat // q ≤ xs.length ∧ ∀ j, j < q → p (xs.getD j default) = false}) (fun (iZ : {q : Nat // q ≤ xs.length ∧ ∀ j, j < q → p (xs.getD j default) = false}) => match iZ with | ⟨q, hq, hn⟩ => [(8, avI (q : Int))]) (fun (iZ : {q : Nat // q ≤ xs.length ∧ ∀ j, j < q → p (xs.getD j default) = false}) => match iZ with | ⟨q, hq, hn⟩ => []) (fun (iZ : {q : Nat // q ≤ xs.length ∧ ∀ j, j < q → p (xs.getD j default) = false}) => match iZ with | ⟨q, hq, hn⟩ => 0) (fun (iZ : {q : Nat // q ≤ xs.length ∧ ∀ j, j < q → p (xs.getD j default) = false}) => match iZ with | ⟨q, hq, hn⟩ => xs.length - q) ⟨0, Nat.zero_le _, fun j hj => absurd hj (Nat.not_lt_zero j)⟩ (Le.mk hB [] ⟨rfl, rfl, rfl, rfl, trivial⟩ rfl rfl (Nat.le_refl _)) ?_
 rintro ⟨q, hq, hn⟩
 show VC _ _ _ _ ⟨[(8, avI (q : Int))] ++ [(0, _), (1, _), (7, _)], [], 0⟩
 refine VC.sr ?_
 refine VO.val rfl rfl (OpV.lss rfl rfl rfl) ?_
 refine VO.nil ?_
 refine VC.seq ?_
 refine VC.cond rfl (fun aH1b => ?_) (fun aH1b => ?_)
 ·have aH1 := aH1b
  try simp only [qqT, qqF, qqN, qqM, qqL, qqE] at aH1
  refine VC.skip ?_
  refine VC.seq ?_
  refine VC.block ?_
  refine VC.sr ?_
  refine VO.mv rfl rfl rfl rfl ?_
  refine VO.ma rfl rfl rfl rfl ?_
  refine VO.nil ?_
  refine VC.sr ?_
  refine VO.mv rfl rfl rfl rfl ?_
  refine VO.mv rfl rfl rfl rfl ?_
  refine VO.mv rfl rfl rfl rfl ?_
  refine VO.val rfl rfl (OpV.indexAddr_E rfl Tryz.underlying26 Tryz.sizeOf33 rfl rfl rfl (by omega)) ?_
  refine VO.val rfl rfl (OpV.loadK_at rfl hB OutW.no Tryz.isAgg33 Tryz.sizeOf33 rfl rfl) ?_
  refine VO.op rfl (OpE.callF rfl hB rfl hcall rfl rfl (hF _) ?_)
  rintro _ rfl
  refine VO.nil ?_
  refine VC.cond rfl (fun aH2b => ?_) (fun aH2b => ?_)
  ·have aH2 := aH2b
   try simp only [qqT, qqF, qqN, qqM, qqL, qqE] at aH2
   refine VC.sr ?_
   refine VO.mv rfl rfl rfl rfl ?_
   refine VO.ma rfl rfl rfl rfl ?_
   refine VO.nil ?_
   refine VC.ret ?_
   exact Exists.intro _ (And.intro (RetN.one Tryz.results236 (ResN.v rfl)) (by first | (rw [fidx_found (d := default) (q := q) (by omega) hn (by assumption)]) | (rw [fidx_none (d := default) (fun j hj => hn j (by omega))])))
  ·have aH2 := aH2b
   try simp only [qqT, qqF, qqN, qqM, qqL, qqE] at aH2
   refine VC.skip ?_
   refine VC.region ?_
   refine VO.val rfl rfl (OpV.add rfl rfl rfl (by unfold fits; omega)) ?_
   refine VO.mv rfl rfl rfl rfl ?_
   refine VO.nil ?_
   exact Exists.intro (⟨q + 1, by omega, lt_succ_cases hn ((by assumption))⟩) (And.intro (Le.mk hB [] ⟨rfl, rfl, rfl, rfl, trivial⟩ rfl rfl (Nat.le_refl _)) (by first | omega | (show _ < _; omega) | (simp only []; omega)))
 ·have aH1 := aH1b
  try simp only [qqT, qqF, qqN, qqM, qqL, qqE] at aH1
  refine VC.exit ?_
  refine VC.sr ?_
  refine VO.ma rfl rfl rfl rfl ?_
  refine VO.nil ?_
  refine VC.ret ?_
  exact Exists.intro _ (And.intro (RetN.one Tryz.results236 (ResN.v rfl)) (by first | (rw [fidx_found (d := default) (q := q) (by omega) hn (by assumption)]) | (rw [fidx_none (d := default) (fun j hj => hn j (by omega))])))
set_option maxRecDepth 100000 in
theorem slices_ContainsFunc_lk {xs : List LookS} {F : FuncId} {cs : List AV} {p : LookS → Bool} (hl : xs.length ≤ 1000000000) (hcall : ∀ us w, (callFunc F us).run Tryz.prog w = .ok (.enter F us) w) (hF : ∀ x, Spec Tryz.prog F ([avT x] ++ cs) (fun y => y = avB (p x))) :
  SpecN Tryz.prog 122 [avL xs, .fn F cs] (fun y => y = avB (xs.any p)) := by
 refine SpecN.of_VCN Tryz.func122 rfl Tryz.ntmps122 (Nle rfl) fun w A hB => ?_
 have hnew : True := trivial
 refine VC.sr ?_
 refine VO.ma rfl rfl rfl rfl ?_
 refine VO.nil ?_
 refine VC.sr ?_
 refine VO.mv rfl rfl rfl rfl ?_
 refine VO.mv rfl rfl rfl rfl ?_
 refine VO.op rfl (OpE.call rfl hB rfl Tryz.call236 rfl (SpecN.spec (slices_IndexFunc_lk hl hcall hF)) ?_)
 rintro _ rfl
 refine VO.val rfl rfl (OpV.geq rfl rfl rfl) ?_
 refine VO.ma rfl rfl rfl rfl ?_
 refine VO.nil ?_
 refine VC.ret ?_
 exact Exists.intro _ (And.intro (RetN.one Tryz.results122 (ResN.v rfl)) (by rw [← fidx_any]))
theorem lt8 {f g : Nat → AV} (h0 : f 0 = g 0) (h1 : f 1 = g 1) (h2 : f 2 = g 2) (h3 : f 3 = g 3) (h4 : f 4 = g 4) (h5 : f 5 = g 5) (h6 : f 6 = g 6) (h7 : f 7 = g 7) : ∀ j, j < 8 → f j = g j := fun j hj => by
 match j, hj with
 | 0, _ => exact h0
 | 1, _ => exact h1
 | 2, _ => exact h2
 | 3, _ => exact h3
 | 4, _ => exact h4
 | 5, _ => exact h5
 | 6, _ => exact h6
 | 7, _ => exact h7
theorem lks_all {x : LookS} (h1 : keyF x.board = true) (h2 : keyF x.name = true) (h3 : keyF x.machine = true) (h4 : keyF x.nozzle = true) (h5 : keyF x.reel = true) : (lkStrs x).all keyF = true := by simp [lkStrs, h1, h2, h3, h4, h5]
theorem lks_no {x : LookS} (h : keyF x.board = false ∨ keyF x.name = false ∨ keyF x.machine = false ∨ keyF x.nozzle = false ∨ keyF x.reel = false) : (lkStrs x).all keyF = false := by
 rcases h with h | h | h | h | h <;> simp [lkStrs, h]
theorem mom_f {n : Int} (h : (decide (0 ≤ n) && decide (n ≤ 345686399999)) = false) : outR n 0 345686399999 = true := by unfold outR; simp at h ⊢; omega
theorem mom_t {n : Int} (h : (decide (0 ≤ n) && decide (n ≤ 345686399999)) = true) : outR n 0 345686399999 = false := by unfold outR; simp at h ⊢; omega
theorem in_f {n a b : Int} (h : (decide (a ≤ n) && decide (n ≤ b)) = false) : outR n a b = true := by unfold outR; simp at h ⊢; omega
theorem in_t {n a b : Int} (h : (decide (a ≤ n) && decide (n ≤ b)) = true) : outR n a b = false := by unfold outR; simp at h ⊢; omega
set_option maxRecDepth 100000 in
set_option maxHeartbeats 8000000 in
theorem rf_LooksFault {l : List LookS} (hs : SmLk l) :
    SpecN Tryz.prog 22 [avL l] (fun y => y = avI (lookF l)) := by
  refine SpecN.of_VCN Tryz.func22 rfl Tryz.ntmps22 (Nle rfl) fun w A hB => ?_
  have hnew : True := trivial
  refine VC.seq ?_
  have hl := hs.len
  refine VC.region ?_
  refine VO.ma rfl rfl rfl rfl ?_
  refine VO.nil ?_
  refine VC.seq ?_
  refine VC.sr ?_
  refine VO.mv rfl rfl rfl rfl ?_
  refine VO.val rfl rfl (OpV.len_im rfl Tryz.underlying26 rfl) ?_
  refine VO.val rfl rfl (OpV.gtr rfl rfl rfl) ?_
  refine VO.nil ?_
  refine VC.cond rfl (fun aH1b => ?_) (fun aH1b => ?_)
  · have aH1 := aH1b
    try simp only [qqT, qqF, qqN, qqM, qqL, qqE] at aH1
    refine VC.sr ?_
    refine VO.ma rfl rfl rfl rfl ?_
    refine VO.nil ?_
    refine VC.ret ?_
    exact Exists.intro _ (And.intro (RetN.one Tryz.results22 (ResN.v rfl)) (by rw [lookF_2 (by omega)]))
  · have aH1 := aH1b
    try simp only [qqT, qqF, qqN, qqM, qqL, qqE] at aH1
    refine VC.skip ?_
    refine VC.seq ?_
    refine VC.sr ?_
    refine VO.mv rfl rfl rfl rfl ?_
    refine VO.val rfl rfl (OpV.len_im rfl Tryz.underlying26 rfl) ?_
    refine VO.mv rfl rfl rfl rfl ?_
    refine VO.nil ?_
    refine VC.block ?_
    refine VC.loopK [(0, _), (10, _), (11, _)] ⟨rfl, rfl, rfl, trivial⟩ ({q : Nat // q ≤ l.length ∧ ∀ j, j < q → lookE l j = 0}) (fun (iZ : {q : Nat // q ≤ l.length ∧ ∀ j, j < q → lookE l j = 0}) => match iZ with | ⟨q, hq, hn⟩ => [(12, avI (q : Int))]) (fun (iZ : {q : Nat // q ≤ l.length ∧ ∀ j, j < q → lookE l j = 0}) => match iZ with | ⟨q, hq, hn⟩ => []) (fun (iZ : {q : Nat // q ≤ l.length ∧ ∀ j, j < q → lookE l j = 0}) => match iZ with | ⟨q, hq, hn⟩ => 0) (fun (iZ : {q : Nat // q ≤ l.length ∧ ∀ j, j < q → lookE l j = 0}) => match iZ with | ⟨q, hq, hn⟩ => l.length - q) ⟨0, Nat.zero_le _, fun j hj => absurd hj (Nat.not_lt_zero j)⟩ (Le.mk hB [] ⟨rfl, rfl, rfl, rfl, trivial⟩ rfl rfl (Nat.le_refl _)) ?_
    rintro ⟨q, hq, hn⟩
    show VC _ _ _ _ ⟨[(12, avI (q : Int))] ++ [(0, _), (10, _), (11, _)], [], 0⟩
    refine VC.sr ?_
    refine VO.val rfl rfl (OpV.lss rfl rfl rfl) ?_
    refine VO.nil ?_
    refine VC.seq ?_
    refine VC.cond rfl (fun aH2b => ?_) (fun aH2b => ?_)
    · have aH2 := aH2b
      try simp only [qqT, qqF, qqN, qqM, qqL, qqE] at aH2
      refine VC.skip ?_
      refine VC.seq ?_
      refine VC.block ?_
      refine VC.sr ?_
      refine VO.mv rfl rfl rfl rfl ?_
      refine VO.val rfl rfl (OpV.indexAddr_E rfl Tryz.underlying26 Tryz.sizeOf33 rfl rfl rfl (by omega)) ?_
      refine VO.val rfl rfl (OpV.loadK_at rfl hB OutW.no Tryz.isAgg33 Tryz.sizeOf33 rfl rfl) ?_
      refine VO.op rfl (OpE.alloc rfl hB rfl Tryz.zeroValue33 rfl ?_)
      intro g4
      refine VO.ma rfl rfl rfl rfl ?_
      refine VO.op rfl (OpE.store (i := 0) rfl hB rfl Tryz.sizeOf33 rfl rfl rfl rfl rfl rfl (Nle rfl) trivial ?_)
      refine VO.nil ?_
      refine VC.block ?_
      refine VC.sr ?_
      refine VO.val rfl rfl (OpV.fieldAddrO 0 rfl Tryz.underlying33 rfl rfl Tryz.sizeOf9 rfl) ?_
      refine VO.val rfl rfl (OpV.load_own (i := 0) rfl hB Tryz.isAgg9 rfl rfl rfl (fun h => h)) ?_
      refine VO.op rfl (OpE.call rfl hB rfl Tryz.call26 rfl (SpecN.spec (rf_Key (by have := hs.board q; omega))) ?_)
      rintro _ rfl
      refine VO.val rfl rfl (OpV.not rfl rfl) ?_
      refine VO.mv rfl rfl rfl rfl ?_
      refine VO.opG rfl rfl rfl rfl (fun aK3b => ?_) (fun aK3b => ?_)
      · replace aK3b : _ = false := aK3b
        have aK3 := aK3b
        try simp only [qqT, qqF, qqN, qqM, qqL, qqE] at aK3
        refine OpE.val (W := NoB) (OpV.fieldAddrO 1 rfl Tryz.underlying33 rfl rfl Tryz.sizeOf9 rfl) rfl ?_
        refine VO.opY rfl rfl rfl rfl aK3b ?_
        refine OpE.val (W := NoB) (OpV.load_own (i := 0) rfl hB Tryz.isAgg9 rfl rfl rfl (fun h => h)) rfl ?_
        refine VO.opY rfl rfl rfl rfl aK3b ?_
        refine OpE.call rfl hB rfl Tryz.call26 rfl (SpecN.spec (rf_Key (by have := hs.name q; omega))) ?_
        rintro _ rfl
        refine VO.opY rfl rfl rfl rfl aK3b ?_
        refine OpE.val (W := NoB) (OpV.not rfl rfl) rfl ?_
        refine VO.val rfl rfl (OpV.pickF rfl rfl rfl rfl aK3b) ?_
        refine VO.mv rfl rfl rfl rfl ?_
        refine VO.opG rfl rfl rfl rfl (fun aK4b => ?_) (fun aK4b => ?_)
        · replace aK4b : _ = false := aK4b
          have aK4 := aK4b
          try simp only [qqT, qqF, qqN, qqM, qqL, qqE] at aK4
          refine OpE.val (W := NoB) (OpV.fieldAddrO 5 rfl Tryz.underlying33 rfl rfl Tryz.sizeOf9 rfl) rfl ?_
          refine VO.opY rfl rfl rfl rfl aK4b ?_
          refine OpE.val (W := NoB) (OpV.load_own (i := 0) rfl hB Tryz.isAgg9 rfl rfl rfl (fun h => h)) rfl ?_
          refine VO.opY rfl rfl rfl rfl aK4b ?_
          refine OpE.call rfl hB rfl Tryz.call26 rfl (SpecN.spec (rf_Key (by have := hs.machine q; omega))) ?_
          rintro _ rfl
          refine VO.opY rfl rfl rfl rfl aK4b ?_
          refine OpE.val (W := NoB) (OpV.not rfl rfl) rfl ?_
          refine VO.val rfl rfl (OpV.pickF rfl rfl rfl rfl aK4b) ?_
          refine VO.mv rfl rfl rfl rfl ?_
          refine VO.opG rfl rfl rfl rfl (fun aK5b => ?_) (fun aK5b => ?_)
          · replace aK5b : _ = false := aK5b
            have aK5 := aK5b
            try simp only [qqT, qqF, qqN, qqM, qqL, qqE] at aK5
            refine OpE.val (W := NoB) (OpV.fieldAddrO 6 rfl Tryz.underlying33 rfl rfl Tryz.sizeOf9 rfl) rfl ?_
            refine VO.opY rfl rfl rfl rfl aK5b ?_
            refine OpE.val (W := NoB) (OpV.load_own (i := 0) rfl hB Tryz.isAgg9 rfl rfl rfl (fun h => h)) rfl ?_
            refine VO.opY rfl rfl rfl rfl aK5b ?_
            refine OpE.call rfl hB rfl Tryz.call26 rfl (SpecN.spec (rf_Key (by have := hs.nozzle q; omega))) ?_
            rintro _ rfl
            refine VO.opY rfl rfl rfl rfl aK5b ?_
            refine OpE.val (W := NoB) (OpV.not rfl rfl) rfl ?_
            refine VO.val rfl rfl (OpV.pickF rfl rfl rfl rfl aK5b) ?_
            refine VO.mv rfl rfl rfl rfl ?_
            refine VO.opG rfl rfl rfl rfl (fun aK6b => ?_) (fun aK6b => ?_)
            · replace aK6b : _ = false := aK6b
              have aK6 := aK6b
              try simp only [qqT, qqF, qqN, qqM, qqL, qqE] at aK6
              refine OpE.val (W := NoB) (OpV.fieldAddrO 7 rfl Tryz.underlying33 rfl rfl Tryz.sizeOf9 rfl) rfl ?_
              refine VO.opY rfl rfl rfl rfl aK6b ?_
              refine OpE.val (W := NoB) (OpV.load_own (i := 0) rfl hB Tryz.isAgg9 rfl rfl rfl (fun h => h)) rfl ?_
              refine VO.opY rfl rfl rfl rfl aK6b ?_
              refine OpE.call rfl hB rfl Tryz.call26 rfl (SpecN.spec (rf_Key (by have := hs.reel q; omega))) ?_
              rintro _ rfl
              refine VO.opY rfl rfl rfl rfl aK6b ?_
              refine OpE.val (W := NoB) (OpV.not rfl rfl) rfl ?_
              refine VO.val rfl rfl (OpV.pickF rfl rfl rfl rfl aK6b) ?_
              refine VO.ma rfl rfl rfl rfl ?_
              refine VO.nil ?_
              refine VC.cond rfl (fun h2b => ?_) (fun h2b => ?_)
              · have h2 := h2b
                try simp only [qqT, qqF, qqN, qqM, qqL, qqE] at h2
                have k2 : (lkStrs (l.getD q default)).all keyF = false := lks_no (by simp_all)
                refine VC.sr ?_
                refine VO.ma rfl rfl rfl rfl ?_
                refine VO.nil ?_
                refine VC.ret ?_
                exact Exists.intro _ (And.intro (RetN.one Tryz.results22 (ResN.v rfl)) (by rw [lookF_at (by omega) (by omega) hn (by rw [lookE_5 k2]; decide), lookE_5 k2]))
              · have h2 := h2b
                try simp only [qqT, qqF, qqN, qqM, qqL, qqE] at h2
                have k2 : (lkStrs (l.getD q default)).all keyF = true := lks_all (by simp_all) (by simp_all) (by simp_all) (by simp_all) (by simp_all)
                refine VC.sr ?_
                refine VO.val rfl rfl (OpV.fieldAddrO 2 rfl Tryz.underlying33 rfl rfl Tryz.sizeOf3 rfl) ?_
                refine VO.val rfl rfl (OpV.load_own (i := 0) rfl hB Tryz.isAgg3 rfl rfl rfl (fun h => h)) ?_
                refine VO.op rfl (OpE.call rfl hB rfl Tryz.call27 rfl (SpecN.spec (rf_MomentL)) ?_)
                rintro _ rfl
                refine VO.val rfl rfl (OpV.not rfl rfl) ?_
                refine VO.ma rfl rfl rfl rfl ?_
                refine VO.nil ?_
                refine VC.cond rfl (fun h3b => ?_) (fun h3b => ?_)
                · have h3 := h3b
                  try simp only [qqT, qqF, qqN, qqM, qqL, qqE] at h3
                  have k3 : outR (l.getD q default).at_ 0 345686399999 = true := mom_f (not_true_false h3b)
                  refine VC.sr ?_
                  refine VO.ma rfl rfl rfl rfl ?_
                  refine VO.nil ?_
                  refine VC.ret ?_
                  exact Exists.intro _ (And.intro (RetN.one Tryz.results22 (ResN.v rfl)) (by rw [lookF_at (by omega) (by omega) hn (by rw [lookE_1 k2 k3]; decide), lookE_1 k2 k3]))
                · have h3 := h3b
                  try simp only [qqT, qqF, qqN, qqM, qqL, qqE] at h3
                  have k3 : outR (l.getD q default).at_ 0 345686399999 = false := mom_t (not_false_true h3b)
                  have k3' : 0 ≤ (l.getD q default).at_ ∧ (l.getD q default).at_ ≤ 345686399999 := outR_inL (by rw [k3]; simp)
                  refine VC.sr ?_
                  refine VO.val rfl rfl (OpV.fieldAddrO 3 rfl Tryz.underlying33 rfl rfl Tryz.sizeOf3 rfl) ?_
                  refine VO.val rfl rfl (OpV.load_own (i := 0) rfl hB Tryz.isAgg3 rfl rfl rfl (fun h => h)) ?_
                  refine VO.op rfl (OpE.call rfl hB rfl Tryz.call120 rfl (SpecN.spec (rf_in)) ?_)
                  rintro _ rfl
                  refine VO.val rfl rfl (OpV.not rfl rfl) ?_
                  refine VO.ma rfl rfl rfl rfl ?_
                  refine VO.nil ?_
                  refine VC.cond rfl (fun h4b => ?_) (fun h4b => ?_)
                  · have h4 := h4b
                    try simp only [qqT, qqF, qqN, qqM, qqL, qqE] at h4
                    have k4 : outR (l.getD q default).verdict 1 5 = true := in_f (not_true_false h4b)
                    refine VC.sr ?_
                    refine VO.ma rfl rfl rfl rfl ?_
                    refine VO.nil ?_
                    refine VC.ret ?_
                    exact Exists.intro _ (And.intro (RetN.one Tryz.results22 (ResN.v rfl)) (by rw [lookF_at (by omega) (by omega) hn (by rw [lookE_4 k2 k3 k4]; decide), lookE_4 k2 k3 k4]))
                  · have h4 := h4b
                    try simp only [qqT, qqF, qqN, qqM, qqL, qqE] at h4
                    have k4 : outR (l.getD q default).verdict 1 5 = false := in_t (not_false_true h4b)
                    refine VC.seq ?_
                    refine VC.draw (fun _ => NoB) hB (by kernel_rfl) ?_
                    refine VA.take (i := 0) rfl (by kernel_rfl) (by kernel_rfl) (by kernel_rfl) rfl rfl (OpV.move (.inl rfl) rfl) ?_
                    refine VA.take (i := 1) rfl (by kernel_rfl) (by kernel_rfl) (by kernel_rfl) rfl rfl (OpV.gtr rfl rfl rfl) ?_
                    refine VA.take (i := 2) rfl (by kernel_rfl) (by kernel_rfl) (by kernel_rfl) rfl rfl (OpV.move (.inl rfl) rfl) ?_
                    refine VA.split (t := 59) rfl (fun aK7b => ?_) (fun aK7b => ?_)
                    · have aK7 := aK7b
                      try simp only [qqT, qqF, qqN, qqM, qqL, qqE] at aK7
                      refine VA.takeY (i := 3) rfl (by kernel_rfl) (by kernel_rfl) (by kernel_rfl) rfl rfl rfl rfl aK7b (OpV.move (.inl rfl) rfl) ?_
                      refine VA.takeY (i := 4) rfl (by kernel_rfl) (by kernel_rfl) (by kernel_rfl) rfl rfl rfl rfl aK7b (OpV.move (.inl rfl) rfl) ?_
                      refine VA.takeY (i := 5) rfl (by kernel_rfl) (by kernel_rfl) (by kernel_rfl) rfl rfl rfl rfl aK7b (OpV.sub rfl rfl rfl (by unfold fits; omega)) ?_
                      refine VA.takeY (i := 6) rfl (by kernel_rfl) (by kernel_rfl) (by kernel_rfl) rfl rfl rfl rfl aK7b (OpV.indexAddr_E rfl Tryz.underlying26 Tryz.sizeOf33 rfl rfl (show ((q : Int) - 1) = ((q - 1 : Nat) : Int) by omega) (by omega)) ?_
                      refine VA.takeY (i := 7) rfl (by kernel_rfl) (by kernel_rfl) (by kernel_rfl) rfl rfl rfl rfl aK7b (OpV.loadK_at rfl hB OutW.wi0 Tryz.isAgg33 Tryz.sizeOf33 rfl rfl) ?_
                      refine VA.takeY (i := 8) rfl (by kernel_rfl) (by kernel_rfl) (by kernel_rfl) rfl rfl rfl rfl aK7b (OpV.loadK_own (i := 0) rfl hB Tryz.isAgg33 Tryz.sizeOf33 rfl rfl rfl Wi.not0) ?_
                      refine VA.all (rs := [9]) (by kernel_rfl) (by decide) ?_
                      refine ⟨⟨_, rfl, .inr ⟨_, _, _, rfl, rfl, (look_k rfl aK7b)⟩, ?_⟩, trivial⟩
                      refine OpE.call rfl hB rfl Tryz.call121 rfl (SpecN.spec (rf_lookOrder (a := l.getD (q - 1) default) (b := l.getD q default) (lookE_zero (hn (q - 1) (by omega))).at_ k3')) ?_
                      rintro _ rfl
                      refine VA.takeY (i := 10) rfl (by kernel_rfl) (by kernel_rfl) (by kernel_rfl) rfl rfl rfl rfl aK7b (OpV.geq rfl rfl rfl) ?_
                      refine VA.take (i := 11) rfl (by kernel_rfl) (by kernel_rfl) (by kernel_rfl) rfl rfl (OpV.pickT rfl rfl rfl rfl aK7b) ?_
                      refine VA.take (i := 12) rfl (by kernel_rfl) (by kernel_rfl) (by kernel_rfl) rfl rfl (OpV.move (.inr rfl) rfl) ?_
                      refine VA.done (by kernel_rfl) ?_
                      refine VC.cond rfl (fun h5b => ?_) (fun h5b => ?_)
                      · have h5 := h5b
                        try simp only [qqT, qqF, qqN, qqM, qqL, qqE] at h5
                        refine VC.sr ?_
                        refine VO.ma rfl rfl rfl rfl ?_
                        refine VO.nil ?_
                        refine VC.ret ?_
                        exact Exists.intro _ (And.intro (RetN.one Tryz.results22 (ResN.v rfl)) (by rw [lookF_at (by omega) (by omega) hn (by rw [lookE_7 k2 k3 k4 (by omega) (by omega)]; decide), lookE_7 k2 k3 k4 (by omega) (by omega)]))
                      · have h5 := h5b
                        try simp only [qqT, qqF, qqN, qqM, qqL, qqE] at h5
                        refine VC.skip ?_
                        refine VC.region ?_
                        refine VO.val rfl rfl (OpV.add rfl rfl rfl (by unfold fits; omega)) ?_
                        refine VO.mv rfl rfl rfl rfl ?_
                        refine VO.nil ?_
                        exact Exists.intro (⟨q + 1, by omega, lt_succ_cases hn ((lookE_0 k2 k3 k4 (by first | exact .inl (by omega) | exact .inr (by omega))))⟩) (And.intro (Le.mk hB [] ⟨rfl, rfl, rfl, rfl, trivial⟩ rfl rfl (Nat.le_refl _)) (by first | omega | (show _ < _; omega) | (simp only []; omega)))
                    · have aK7 := aK7b
                      try simp only [qqT, qqF, qqN, qqM, qqL, qqE] at aK7
                      refine VA.takeX (i := 3) rfl (by kernel_rfl) (by kernel_rfl) (by kernel_rfl) rfl rfl rfl rfl aK7b ?_
                      refine VA.takeX (i := 4) rfl (by kernel_rfl) (by kernel_rfl) (by kernel_rfl) rfl rfl rfl rfl aK7b ?_
                      refine VA.takeX (i := 5) rfl (by kernel_rfl) (by kernel_rfl) (by kernel_rfl) rfl rfl rfl rfl aK7b ?_
                      refine VA.takeX (i := 6) rfl (by kernel_rfl) (by kernel_rfl) (by kernel_rfl) rfl rfl rfl rfl aK7b ?_
                      refine VA.takeX (i := 7) rfl (by kernel_rfl) (by kernel_rfl) (by kernel_rfl) rfl rfl rfl rfl aK7b ?_
                      refine VA.takeX (i := 8) rfl (by kernel_rfl) (by kernel_rfl) (by kernel_rfl) rfl rfl rfl rfl aK7b ?_
                      refine VA.takeX (i := 9) rfl (by kernel_rfl) (by kernel_rfl) (by kernel_rfl) rfl rfl rfl rfl aK7b ?_
                      refine VA.takeX (i := 10) rfl (by kernel_rfl) (by kernel_rfl) (by kernel_rfl) rfl rfl rfl rfl aK7b ?_
                      refine VA.take (i := 11) rfl (by kernel_rfl) (by kernel_rfl) (by kernel_rfl) rfl rfl (OpV.pickF rfl rfl rfl rfl aK7b) ?_
                      refine VA.take (i := 12) rfl (by kernel_rfl) (by kernel_rfl) (by kernel_rfl) rfl rfl (OpV.move (.inr rfl) rfl) ?_
                      refine VA.done (by kernel_rfl) ?_
                      refine VC.condF rfl rfl ?_
                      refine VC.skip ?_
                      refine VC.region ?_
                      refine VO.val rfl rfl (OpV.add rfl rfl rfl (by unfold fits; omega)) ?_
                      refine VO.mv rfl rfl rfl rfl ?_
                      refine VO.nil ?_
                      exact Exists.intro (⟨q + 1, by omega, lt_succ_cases hn ((lookE_0 k2 k3 k4 (by first | exact .inl (by omega) | exact .inr (by omega))))⟩) (And.intro (Le.mk hB [] ⟨rfl, rfl, rfl, rfl, trivial⟩ rfl rfl (Nat.le_refl _)) (by first | omega | (show _ < _; omega) | (simp only []; omega)))
            · replace aK6b : _ = true := aK6b
              have aK6 := aK6b
              try simp only [qqT, qqF, qqN, qqM, qqL, qqE] at aK6
              refine VO.opX rfl rfl rfl rfl aK6b ?_
              refine VO.opX rfl rfl rfl rfl aK6b ?_
              refine VO.opX rfl rfl rfl rfl aK6b ?_
              refine VO.val rfl rfl (OpV.pickT rfl rfl rfl rfl aK6b) ?_
              refine VO.ma rfl rfl rfl rfl ?_
              refine VO.nil ?_
              refine VC.condT rfl rfl ?_
              have k2 : (lkStrs (l.getD q default)).all keyF = false := lks_no (by simp_all)
              refine VC.sr ?_
              refine VO.ma rfl rfl rfl rfl ?_
              refine VO.nil ?_
              refine VC.ret ?_
              exact Exists.intro _ (And.intro (RetN.one Tryz.results22 (ResN.v rfl)) (by rw [lookF_at (by omega) (by omega) hn (by rw [lookE_5 k2]; decide), lookE_5 k2]))
          · replace aK5b : _ = true := aK5b
            have aK5 := aK5b
            try simp only [qqT, qqF, qqN, qqM, qqL, qqE] at aK5
            refine VO.opX rfl rfl rfl rfl aK5b ?_
            refine VO.opX rfl rfl rfl rfl aK5b ?_
            refine VO.opX rfl rfl rfl rfl aK5b ?_
            refine VO.val rfl rfl (OpV.pickT rfl rfl rfl rfl aK5b) ?_
            refine VO.mv rfl rfl rfl rfl ?_
            refine VO.opX rfl rfl rfl rfl rfl ?_
            refine VO.opX rfl rfl rfl rfl rfl ?_
            refine VO.opX rfl rfl rfl rfl rfl ?_
            refine VO.opX rfl rfl rfl rfl rfl ?_
            refine VO.val rfl rfl (OpV.pickT rfl rfl rfl rfl rfl) ?_
            refine VO.ma rfl rfl rfl rfl ?_
            refine VO.nil ?_
            refine VC.condT rfl rfl ?_
            have k2 : (lkStrs (l.getD q default)).all keyF = false := lks_no (by simp_all)
            refine VC.sr ?_
            refine VO.ma rfl rfl rfl rfl ?_
            refine VO.nil ?_
            refine VC.ret ?_
            exact Exists.intro _ (And.intro (RetN.one Tryz.results22 (ResN.v rfl)) (by rw [lookF_at (by omega) (by omega) hn (by rw [lookE_5 k2]; decide), lookE_5 k2]))
        · replace aK4b : _ = true := aK4b
          have aK4 := aK4b
          try simp only [qqT, qqF, qqN, qqM, qqL, qqE] at aK4
          refine VO.opX rfl rfl rfl rfl aK4b ?_
          refine VO.opX rfl rfl rfl rfl aK4b ?_
          refine VO.opX rfl rfl rfl rfl aK4b ?_
          refine VO.val rfl rfl (OpV.pickT rfl rfl rfl rfl aK4b) ?_
          refine VO.mv rfl rfl rfl rfl ?_
          refine VO.opX rfl rfl rfl rfl rfl ?_
          refine VO.opX rfl rfl rfl rfl rfl ?_
          refine VO.opX rfl rfl rfl rfl rfl ?_
          refine VO.opX rfl rfl rfl rfl rfl ?_
          refine VO.val rfl rfl (OpV.pickT rfl rfl rfl rfl rfl) ?_
          refine VO.mv rfl rfl rfl rfl ?_
          refine VO.opX rfl rfl rfl rfl rfl ?_
          refine VO.opX rfl rfl rfl rfl rfl ?_
          refine VO.opX rfl rfl rfl rfl rfl ?_
          refine VO.opX rfl rfl rfl rfl rfl ?_
          refine VO.val rfl rfl (OpV.pickT rfl rfl rfl rfl rfl) ?_
          refine VO.ma rfl rfl rfl rfl ?_
          refine VO.nil ?_
          refine VC.condT rfl rfl ?_
          have k2 : (lkStrs (l.getD q default)).all keyF = false := lks_no (by simp_all)
          refine VC.sr ?_
          refine VO.ma rfl rfl rfl rfl ?_
          refine VO.nil ?_
          refine VC.ret ?_
          exact Exists.intro _ (And.intro (RetN.one Tryz.results22 (ResN.v rfl)) (by rw [lookF_at (by omega) (by omega) hn (by rw [lookE_5 k2]; decide), lookE_5 k2]))
      · replace aK3b : _ = true := aK3b
        have aK3 := aK3b
        try simp only [qqT, qqF, qqN, qqM, qqL, qqE] at aK3
        refine VO.opX rfl rfl rfl rfl aK3b ?_
        refine VO.opX rfl rfl rfl rfl aK3b ?_
        refine VO.opX rfl rfl rfl rfl aK3b ?_
        refine VO.val rfl rfl (OpV.pickT rfl rfl rfl rfl aK3b) ?_
        refine VO.mv rfl rfl rfl rfl ?_
        refine VO.opX rfl rfl rfl rfl rfl ?_
        refine VO.opX rfl rfl rfl rfl rfl ?_
        refine VO.opX rfl rfl rfl rfl rfl ?_
        refine VO.opX rfl rfl rfl rfl rfl ?_
        refine VO.val rfl rfl (OpV.pickT rfl rfl rfl rfl rfl) ?_
        refine VO.mv rfl rfl rfl rfl ?_
        refine VO.opX rfl rfl rfl rfl rfl ?_
        refine VO.opX rfl rfl rfl rfl rfl ?_
        refine VO.opX rfl rfl rfl rfl rfl ?_
        refine VO.opX rfl rfl rfl rfl rfl ?_
        refine VO.val rfl rfl (OpV.pickT rfl rfl rfl rfl rfl) ?_
        refine VO.mv rfl rfl rfl rfl ?_
        refine VO.opX rfl rfl rfl rfl rfl ?_
        refine VO.opX rfl rfl rfl rfl rfl ?_
        refine VO.opX rfl rfl rfl rfl rfl ?_
        refine VO.opX rfl rfl rfl rfl rfl ?_
        refine VO.val rfl rfl (OpV.pickT rfl rfl rfl rfl rfl) ?_
        refine VO.ma rfl rfl rfl rfl ?_
        refine VO.nil ?_
        refine VC.condT rfl rfl ?_
        have k2 : (lkStrs (l.getD q default)).all keyF = false := lks_no (by simp_all)
        refine VC.sr ?_
        refine VO.ma rfl rfl rfl rfl ?_
        refine VO.nil ?_
        refine VC.ret ?_
        exact Exists.intro _ (And.intro (RetN.one Tryz.results22 (ResN.v rfl)) (by rw [lookF_at (by omega) (by omega) hn (by rw [lookE_5 k2]; decide), lookE_5 k2]))
    · have aH2 := aH2b
      try simp only [qqT, qqF, qqN, qqM, qqL, qqE] at aH2
      refine VC.exit ?_
      refine VC.seq ?_
      refine VC.seq ?_
      have hl0 : ∀ j, j < l.length → lookE l j = 0 := fun j hj => hn j (by omega)
      refine VC.region ?_
      refine VO.mv rfl rfl rfl rfl ?_
      refine VO.val rfl rfl (OpV.len_im rfl Tryz.underlying26 rfl) ?_
      refine VO.mv rfl rfl rfl rfl ?_
      refine VO.nil ?_
      refine VC.block ?_
      refine VC.loopK [(0, _), (70, _), (71, _)] ⟨rfl, rfl, rfl, trivial⟩ ({r : Nat // r ≤ l.length ∧ ∀ j, j < r → twE l j = 0}) (fun (iZ : {r : Nat // r ≤ l.length ∧ ∀ j, j < r → twE l j = 0}) => match iZ with | ⟨r, hq1, hn1⟩ => [(72, avI (r : Int))]) (fun (iZ : {r : Nat // r ≤ l.length ∧ ∀ j, j < r → twE l j = 0}) => match iZ with | ⟨r, hq1, hn1⟩ => []) (fun (iZ : {r : Nat // r ≤ l.length ∧ ∀ j, j < r → twE l j = 0}) => match iZ with | ⟨r, hq1, hn1⟩ => 0) (fun (iZ : {r : Nat // r ≤ l.length ∧ ∀ j, j < r → twE l j = 0}) => match iZ with | ⟨r, hq1, hn1⟩ => l.length - r) ⟨0, Nat.zero_le _, fun j hj => absurd hj (Nat.not_lt_zero j)⟩ (Le.mk hB [] ⟨rfl, rfl, rfl, rfl, trivial⟩ rfl rfl (Nat.le_refl _)) ?_
      rintro ⟨r, hq1, hn1⟩
      show VC _ _ _ _ ⟨[(72, avI (r : Int))] ++ [(0, _), (70, _), (71, _)], [], 0⟩
      refine VC.sr ?_
      refine VO.val rfl rfl (OpV.lss rfl rfl rfl) ?_
      refine VO.nil ?_
      refine VC.seq ?_
      refine VC.cond rfl (fun aH8b => ?_) (fun aH8b => ?_)
      · have aH8 := aH8b
        try simp only [qqT, qqF, qqN, qqM, qqL, qqE] at aH8
        refine VC.skip ?_
        refine VC.seq ?_
        refine VC.block ?_
        refine VC.sr ?_
        refine VO.mv rfl rfl rfl rfl ?_
        refine VO.val rfl rfl (OpV.indexAddr_E rfl Tryz.underlying26 Tryz.sizeOf33 rfl rfl rfl (by omega)) ?_
        refine VO.val rfl rfl (OpV.loadK_at rfl hB OutW.no Tryz.isAgg33 Tryz.sizeOf33 rfl rfl) ?_
        refine VO.op rfl (OpE.alloc rfl hB rfl Tryz.zeroValue33 rfl ?_)
        intro g6
        refine VO.ma rfl rfl rfl rfl ?_
        refine VO.op rfl (OpE.store (i := 0) rfl hB rfl Tryz.sizeOf33 rfl rfl rfl rfl rfl rfl (Nle rfl) trivial ?_)
        refine VO.nil ?_
        refine VC.sr ?_
        refine VO.mv rfl rfl rfl rfl ?_
        refine VO.mv rfl rfl rfl rfl ?_
        refine VO.val rfl rfl (OpV.slice_L (h := r) rfl Tryz.underlying26 Tryz.sizeOf33 rfl rfl ⟨_, _, rfl, rfl⟩ (by omega) (by omega)) ?_
        refine VO.val rfl rfl (OpV.makeFunc1 rfl rfl) ?_
        refine VO.op rfl (OpE.callL rfl hB rfl Tryz.call122 (slices_ContainsFunc_lk (p := fun o => sameT o (l.getD r default)) (by rw [len_cut (by omega)]; omega) Tryz.call123 (fun x => rf_LooksFault1.spec)) (ArgsP.cons (ArgP.ev rfl) (ArgsP.cons (ArgP.fn1 (i := 0) (m := 8) (f := Sxc.cell (l.getD r default)) rfl rfl (Nle rfl) (lt8 rfl rfl rfl rfl rfl rfl rfl rfl)) (ArgsP.nil))) ?_)
        rintro _ rfl
        refine VO.nil ?_
        refine VC.cond rfl (fun h7b => ?_) (fun h7b => ?_)
        · have h7 := h7b
          try simp only [qqT, qqF, qqN, qqM, qqL, qqE] at h7
          refine VC.sr ?_
          refine VO.ma rfl rfl rfl rfl ?_
          refine VO.nil ?_
          refine VC.ret ?_
          exact Exists.intro _ (And.intro (RetN.one Tryz.results22 (ResN.v rfl)) (by rw [lookF_tw (by omega) hl0 (by omega) hn1 (by rw [twE_6 (by first | assumption | (have h := h7b; simpa using h))]; decide), twE_6 (by first | assumption | (have h := h7b; simpa using h))]))
        · have h7 := h7b
          try simp only [qqT, qqF, qqN, qqM, qqL, qqE] at h7
          refine VC.skip ?_
          refine VC.region ?_
          refine VO.val rfl rfl (OpV.add rfl rfl rfl (by unfold fits; omega)) ?_
          refine VO.mv rfl rfl rfl rfl ?_
          refine VO.nil ?_
          exact Exists.intro (⟨r + 1, by omega, lt_succ_cases hn1 ((twE_0 (by first | assumption | (have h := h7b; simpa using h))))⟩) (And.intro (Le.mk hB [] ⟨rfl, rfl, rfl, rfl, trivial⟩ rfl rfl (Nat.le_refl _)) (by first | omega | (show _ < _; omega) | (simp only []; omega)))
      · have aH8 := aH8b
        try simp only [qqT, qqF, qqN, qqM, qqL, qqE] at aH8
        refine VC.exit ?_
        refine VC.sr ?_
        refine VO.ma rfl rfl rfl rfl ?_
        refine VO.nil ?_
        refine VC.ret ?_
        exact Exists.intro _ (And.intro (RetN.one Tryz.results22 (ResN.v rfl)) (by rw [lookF_ok (by omega) hl0 (fun j hj => hn1 j (by omega))]))
set_option maxRecDepth 100000 in
theorem rf_LeastFault {n : Int}  :
  SpecN Tryz.prog 24 [avI n] (fun y => y = avI (if outR n 1 5000 = true then 1 else 0)) := by
 refine SpecN.of_VCN Tryz.func24 rfl Tryz.ntmps24 (Nle rfl) fun w A hB => ?_
 have hnew : True := trivial
 refine VC.sr ?_
 refine VO.ma rfl rfl rfl rfl ?_
 refine VO.nil ?_
 refine VC.seq ?_
 refine VC.sr ?_
 refine VO.mv rfl rfl rfl rfl ?_
 refine VO.op rfl (OpE.call rfl hB rfl Tryz.call120 rfl (SpecN.spec (rf_in)) ?_)
 rintro _ rfl
 refine VO.val rfl rfl (OpV.not rfl rfl) ?_
 refine VO.nil ?_
 refine VC.cond rfl (fun h0b => ?_) (fun h0b => ?_)
 ·have h0 := h0b
  try simp only [qqT, qqF, qqN, qqM, qqL, qqE] at h0
  refine VC.sr ?_
  refine VO.ma rfl rfl rfl rfl ?_
  refine VO.nil ?_
  refine VC.ret ?_
  exact Exists.intro _ (And.intro (RetN.one Tryz.results24 (ResN.v rfl)) (by first | rw [if_pos (in_f (not_true_false h0b))] | rw [if_neg (by rw [in_t (not_false_true h0b)]; simp)]))
 ·have h0 := h0b
  try simp only [qqT, qqF, qqN, qqM, qqL, qqE] at h0
  refine VC.skip ?_
  refine VC.sr ?_
  refine VO.ma rfl rfl rfl rfl ?_
  refine VO.nil ?_
  refine VC.ret ?_
  exact Exists.intro _ (And.intro (RetN.one Tryz.results24 (ResN.v rfl)) (by first | rw [if_pos (in_f (not_true_false h0b))] | rw [if_neg (by rw [in_t (not_false_true h0b)]; simp)]))
theorem take_map_s {f : LookS → ByteArray} {l : List LookS} {q : Nat} (h : q < l.length) : (l.take (q + 1)).map f = (l.take q).map f ++ [f (l.getD q default)] := by
 rw [List.take_succ_eq_append_getElem h, List.map_append]; simp [h]
set_option maxRecDepth 100000 in
set_option maxHeartbeats 4000000 in
theorem rf_keys {l : List LookS} {F : FuncId} {caps : Array Value} {hpC : List Ent} {f : LookS → ByteArray} (hl : l.length ≤ 1000000) (hcall : ∀ us w, (callFunc F us).run Tryz.prog w = .ok (.enter F us) w) (hF : ∀ x, SpecH Tryz.prog F ([avT x] ++ caps.toList.map .v) hpC (fun y hp' => y = avS (f x) ∧ hp' = hpC)) :
  SpecH Tryz.prog 126 [avL l, .v (.func (.func F) #[] caps)] hpC (fun y hp' => ∃ u', y = .v u' ∧ hp' = .row u' (uK (l.map f)).length 1 (strsL (uK (l.map f))) 9 :: hpC) := by
 refine SpecH.of_VC Tryz.func126 rfl Tryz.ntmps126 (Nle rfl) fun w A hB => ?_
 have hnew : True := trivial
 refine VC.sr ?_
 refine VO.ma rfl rfl rfl rfl ?_
 refine VO.nil ?_
 refine VC.sr ?_
 refine VO.ma rfl rfl rfl rfl ?_
 refine VO.nil ?_
 refine VC.seq ?_
 refine VC.sr ?_
 refine VO.mv rfl rfl rfl rfl ?_
 refine VO.val rfl rfl (OpV.len_im rfl Tryz.underlying26 rfl) ?_
 refine VO.mv rfl rfl rfl rfl ?_
 refine VO.nil ?_
 refine VC.block ?_
 refine VC.le _ (Le.nilRow 1 9) ?_
 refine VC.le _ (Le.front rfl) ?_
 refine VC.loopK [(1, _), (8, _), (9, _)] ⟨rfl, rfl, rfl, trivial⟩ ({zz : Value × Nat // zz.2 ≤ l.length}) (fun (iZ : {zz : Value × Nat // zz.2 ≤ l.length}) => match iZ with | ⟨⟨u, q⟩, hq⟩ => [(5, .v u), (10, avI (q : Int))]) (fun (iZ : {zz : Value × Nat // zz.2 ≤ l.length}) => match iZ with | ⟨⟨u, q⟩, hq⟩ => (.row u ((l.take q).map f).length 1 (strsL ((l.take q).map f)) 9 :: hpC)) (fun (iZ : {zz : Value × Nat // zz.2 ≤ l.length}) => match iZ with | ⟨⟨u, q⟩, hq⟩ => 0) (fun (iZ : {zz : Value × Nat // zz.2 ≤ l.length}) => match iZ with | ⟨⟨u, q⟩, hq⟩ => l.length - q) ⟨(.slice none 0 0, 0), Nat.zero_le _⟩ (Le.mkP hB ⟨rfl, rfl, rfl, rfl, rfl, trivial⟩ (List.Sublist.refl _) (List.Perm.refl _) (Nat.le_refl _)) ?_
 rintro ⟨⟨u, q⟩, hq⟩
 show VC _ _ _ _ ⟨[(5, .v u), (10, avI (q : Int))] ++ [(1, _), (8, _), (9, _)], (.row u ((l.take q).map f).length 1 (strsL ((l.take q).map f)) 9 :: hpC), 0⟩
 simp only at hq
 refine VC.sr ?_
 refine VO.val rfl rfl (OpV.lss rfl rfl rfl) ?_
 refine VO.nil ?_
 refine VC.seq ?_
 refine VC.cond rfl (fun aH1b => ?_) (fun aH1b => ?_)
 ·have aH1 := aH1b
  try simp only [qqT, qqF, qqN, qqM, qqL, qqE] at aH1
  refine VC.skip ?_
  refine VC.seq ?_
  refine VC.block ?_
  refine VC.sr ?_
  have hlt : ((l.take q).map f).length ≤ 1000000 := by rw [List.length_map, List.length_take]; omega
  refine VO.val rfl rfl (OpV.indexAddr_E rfl Tryz.underlying26 Tryz.sizeOf33 rfl rfl rfl (by omega)) ?_
  refine VO.val rfl rfl (OpV.loadK_at rfl hB OutW.no Tryz.isAgg33 Tryz.sizeOf33 rfl rfl) ?_
  refine VO.op rfl (OpE.alloc rfl hB rfl Tryz.zeroValue33 rfl ?_)
  intro g7
  refine VO.le _ (Le.front rfl) ?_
  refine VO.op rfl (OpE.store (i := 0) rfl hB rfl Tryz.sizeOf33 rfl rfl rfl rfl rfl rfl (Nle rfl) trivial ?_)
  refine VO.nil ?_
  refine VC.region ?_
  refine VO.mv rfl rfl rfl rfl ?_
  refine VO.mv rfl rfl rfl rfl ?_
  refine VO.val rfl rfl (OpV.loadK_own (i := 0) rfl hB Tryz.isAgg33 Tryz.sizeOf33 rfl rfl rfl (fun h => h)) ?_
  refine VO.op rfl (OpE.callH (rest := [_, _]) rfl hB rfl hcall rfl rfl (hF _) (List.perm_append_comm (l₁ := [_, _])) (fun _ _ => trivial) ?_)
  rintro _ _ ⟨rfl, rfl⟩
  refine VO.le _ (Le.perm (List.perm_append_comm (l₂ := [_, _]))) ?_
  refine VO.op rfl (OpE.buildSlice (zc := #[.string ⟨#[]⟩]) rfl hB rfl Tryz.underlying67 Tryz.sizeOf9 Tryz.zeroValue9 (by decide) (by decide) (by kernel_rfl) rfl rfl ?_)
  refine VO.op rfl (OpE.append1 (i := 1) rfl hB rfl Tryz.underlying67 (infoOf Tryz.t9 1 (by kernel_rfl) rfl rfl) rfl (by decide) (by decide) rfl rfl rfl rfl (strsL_snoc _ _) (by omega) (fun _ _ => trivial) ?_)
  intro u19
  refine VO.ma rfl rfl rfl rfl ?_
  refine VO.nil ?_
  refine VC.region ?_
  refine VO.val rfl rfl (OpV.add rfl rfl rfl (by unfold fits; omega)) ?_
  refine VO.mv rfl rfl rfl rfl ?_
  refine VO.nil ?_
  exact Exists.intro (⟨(u19, q + 1), by show _ ≤ _; omega⟩) (And.intro (Le.mkP hB ⟨rfl, rfl, rfl, rfl, rfl, trivial⟩ (List.Sublist.cons _ (List.Sublist.refl _)) (by dsimp only; rw [take_map_s (by omega), List.length_append]; exact List.Perm.refl _) (Nat.le_refl _)) (by first | omega | (show _ < _; omega) | (simp only []; omega)))
 ·have aH1 := aH1b
  try simp only [qqT, qqF, qqN, qqM, qqL, qqE] at aH1
  obtain rfl : q = l.length := by omega
  rw [List.take_length]
  have hlm : (l.map f).length ≤ 1000000 := by rw [List.length_map]; omega
  refine VC.exit ?_
  refine VC.sr ?_
  refine VO.mv rfl rfl rfl rfl ?_
  refine VO.op rfl (OpE.callH (hp := [_]) (rest := hpC) rfl hB rfl Tryz.call40 rfl rfl (slices_Sort_O (xs := l.map f) (by omega)) (List.Perm.refl _) (fun _ _ => trivial) ?_)
  rintro _ _ ⟨rfl, rfl⟩
  refine VO.nil ?_
  refine VC.sr ?_
  refine VO.mv rfl rfl rfl rfl ?_
  refine VO.op rfl (OpE.callH (hp := [_]) (rest := hpC) rfl hB rfl Tryz.call41 rfl rfl (slices_Compact_O (xs := l.map f) (by omega)) (List.Perm.refl _) (fun _ _ => trivial) ?_)
  rintro _ _ ⟨u24, rfl, rfl⟩
  refine VO.ma rfl rfl rfl rfl ?_
  refine VO.nil ?_
  refine VC.ret ?_
  exact Exists.intro _ (And.intro (RetV.one Tryz.results126 (ResV.tmp rfl)) (⟨u24, rfl, rfl⟩))
def nozW : ByteArray := ⟨#[110, 111, 122, 122, 108, 101]⟩
def reeW : ByteArray := ⟨#[114, 101, 101, 108]⟩
def nmF (kind : ByteArray) (x : LookS) : ByteArray := if sEq kind nozW = true then x.nozzle else x.reel
theorem nmF_n {kind : ByteArray} {x : LookS} (h : sEq kind nozW = true) : nmF kind x = x.nozzle := by rw [nmF, if_pos h]
theorem nmF_r {kind : ByteArray} {x : LookS} (h : sEq kind nozW = false) : nmF kind x = x.reel := by rw [nmF, if_neg (by rw [h]; simp)]
abbrev bxS (g : Nat) (k : ByteArray) : Ent := .box g ⟨[avS k], 9, 1⟩
set_option maxRecDepth 100000 in
theorem rf_SuspectOf1 {x : LookS} {g : Nat} {kind : ByteArray}  :
  SpecH Tryz.prog 131 [avT x, pt g] [bxS g kind] (fun y hp' => y = avS (nmF kind x) ∧ hp' = [bxS g kind]) := by
 refine SpecH.of_VC Tryz.func131 rfl Tryz.ntmps131 (Nle rfl) fun w A hB => ?_
 have hnew : True := trivial
 refine VC.sr ?_
 refine VO.op rfl (OpE.box rfl hB rfl rfl rfl ?_)
 intro g2
 refine VO.ma rfl rfl rfl rfl ?_
 refine VO.nil ?_
 refine VC.seq ?_
 refine VC.sr ?_
 refine VO.val rfl rfl (OpV.load_own (i := 0) rfl hB Tryz.isAgg9 rfl rfl rfl (fun h => h)) ?_
 refine VO.val rfl rfl (OpV.seql rfl rfl rfl) ?_
 refine VO.nil ?_
 refine VC.cond rfl (fun h0b => ?_) (fun h0b => ?_)
 ·have h0 := h0b
  try simp only [qqT, qqF, qqN, qqM, qqL, qqE] at h0
  refine VC.sr ?_
  refine VO.val rfl rfl (OpV.fieldAddrO 6 rfl Tryz.underlying33 rfl rfl Tryz.sizeOf9 rfl) ?_
  refine VO.val rfl rfl (OpV.load_own (i := 1) rfl hB Tryz.isAgg9 rfl rfl rfl (fun h => h)) ?_
  refine VO.ma rfl rfl rfl rfl ?_
  refine VO.nil ?_
  refine VC.le _ (Le.pickH [0] rfl rfl) ?_
  refine VC.ret ?_
  exact Exists.intro _ (And.intro (RetV.one Tryz.results131 (ResV.tmp rfl)) (by first | exact ⟨(congrArg avS (nmF_n h0)).symm, rfl⟩ | exact ⟨(congrArg avS (nmF_r h0)).symm, rfl⟩))
 ·have h0 := h0b
  try simp only [qqT, qqF, qqN, qqM, qqL, qqE] at h0
  refine VC.skip ?_
  refine VC.sr ?_
  refine VO.val rfl rfl (OpV.fieldAddrO 7 rfl Tryz.underlying33 rfl rfl Tryz.sizeOf9 rfl) ?_
  refine VO.val rfl rfl (OpV.load_own (i := 1) rfl hB Tryz.isAgg9 rfl rfl rfl (fun h => h)) ?_
  refine VO.ma rfl rfl rfl rfl ?_
  refine VO.nil ?_
  refine VC.le _ (Le.pickH [0] rfl rfl) ?_
  refine VC.ret ?_
  exact Exists.intro _ (And.intro (RetV.one Tryz.results131 (ResV.tmp rfl)) (by first | exact ⟨(congrArg avS (nmF_n h0)).symm, rfl⟩ | exact ⟨(congrArg avS (nmF_r h0)).symm, rfl⟩))
abbrev bxN (gn gk : Nat) : Ent := .box gn ⟨[.v (.func (.func 131) #[] #[.pointer (some ⟨gk, 0, none⟩)])], 177, 1⟩
set_option maxRecDepth 100000 in
theorem rf_SuspectOf2 {x : LookS} {gn gk gx : Nat} {kind k : ByteArray}  :
  SpecH Tryz.prog 132 [avT x, pt gn, pt gx] [bxN gn gk, bxS gx k, bxS gk kind] (fun y hp' => y = avB (sEq (nmF kind x) k) ∧ hp' = [bxN gn gk, bxS gx k, bxS gk kind]) := by
 refine SpecH.of_VC Tryz.func132 rfl Tryz.ntmps132 (Nle rfl) fun w A hB => ?_
 have hnew : True := trivial
 refine VC.sr ?_
 refine VO.op rfl (OpE.box rfl hB rfl rfl rfl ?_)
 intro g3
 refine VO.ma rfl rfl rfl rfl ?_
 refine VO.nil ?_
 refine VC.seq ?_
 refine VC.hap (fun hap => ?_)
 have hne : gx ≠ gk := apart_ne hap (i := 1) (j := 2) rfl rfl (by decide)
 refine VC.draw (fun j b => j = 2 ∧ b = gk) hB (by kernel_rfl) ?_
 refine VA.take (i := 0) rfl (by kernel_rfl) (by kernel_rfl) (by kernel_rfl) rfl rfl (OpV.load_own (i := 0) rfl hB Tryz.isAgg177 rfl rfl rfl (by first | exact Wi.not1 (by kernel_rfl) | exact Wi.not2 (by kernel_rfl) (by kernel_rfl) | exact Wi.notX (by kernel_rfl))) ?_
 refine VA.take (i := 1) rfl (by kernel_rfl) (by kernel_rfl) (by kernel_rfl) rfl rfl (OpV.loadK_own (i := 3) rfl hB Tryz.isAgg33 Tryz.sizeOf33 rfl rfl rfl (by first | exact Wi.not1 (by kernel_rfl) | exact Wi.not2 (by kernel_rfl) (by kernel_rfl) | exact Wi.notX (by kernel_rfl))) ?_
 refine VA.take (i := 3) rfl (by kernel_rfl) (by kernel_rfl) (by kernel_rfl) rfl rfl (OpV.load_own (i := 1) rfl hB Tryz.isAgg9 rfl rfl rfl (fun ⟨_, _, _, h⟩ => hne h)) ?_
 refine VA.all (rs := [2]) (by kernel_rfl) (by decide) ?_
 refine ⟨⟨_, rfl, .inl rfl, ?_⟩, trivial⟩
 refine OpE.callH (hp := [_]) (rest := [_, _, _]) rfl hB rfl Tryz.call131 rfl rfl (rf_SuspectOf1 (x := x) (g := gk) (kind := kind)) (List.perm_middle (l₁ := [_, _])) (fun b ⟨e, he, hb⟩ => by simp at he; subst he; simp [Ent.blk] at hb; exact ⟨rfl, hb.symm⟩) ?_
 rintro _ _ ⟨rfl, rfl⟩
 refine VA.take (i := 4) rfl (by kernel_rfl) (by kernel_rfl) (by kernel_rfl) rfl rfl (OpV.seql rfl rfl rfl) ?_
 refine VA.take (i := 5) rfl (by kernel_rfl) (by kernel_rfl) (by kernel_rfl) rfl rfl (OpV.move (.inr rfl) rfl) ?_
 refine VA.done (by kernel_rfl) ?_
 refine VC.le _ (Le.pickH [1, 2, 0] rfl rfl) ?_
 refine VC.ret ?_
 exact Exists.intro _ (And.intro (RetV.one Tryz.results132 (ResV.tmp rfl)) (⟨rfl, rfl⟩))
end Go.Proofs.YtaaokimiadfidaaGreatDoor
namespace Go.Proofs.YtaaokimiadfidaaGreatDoor
open Go.RowKit
set_option linter.unusedVariables false
set_option linter.unusedSimpArgs false

structure BodyS where
 part : ByteArray
 wide : Int
 high : Int
instance : Inhabited BodyS := ⟨⟨ByteArray.empty, 0, 0⟩⟩
instance : Sxc BodyS where
 k := 3
 pos := by decide
 cell m j := match j with
  | 0 => avS m.part
  | 1 => avI m.wide
  | 2 => avI m.high
  | _ => .any
structure PairS where
 name : ByteArray
 value : ByteArray
instance : Inhabited PairS := ⟨⟨ByteArray.empty, ByteArray.empty⟩⟩
instance : Sxc PairS where
 k := 2
 pos := by decide
 cell m j := match j with
  | 0 => avS m.name
  | 1 => avS m.value
  | _ => .any
section
variable {l : List BodyS} {i : Nat}
end
end Go.Proofs.YtaaokimiadfidaaGreatDoor
namespace Go.Proofs.YtaaokimiadfidaaGreatDoor
open Go.RowKit
set_option linter.unusedVariables false
set_option linter.unusedSimpArgs false

structure SlotS where
 x : Int
 y : Int
 quarter : Int
 skip : Bool
instance : Inhabited SlotS := ⟨⟨0, 0, 0, false⟩⟩
instance : Sxc SlotS where
 k := 4
 pos := by decide
 cell m j := match j with
  | 0 => avI m.x
  | 1 => avI m.y
  | 2 => avI m.quarter
  | 3 => avB m.skip
  | _ => .any
structure PanS where
 wide : Int
 high : Int
 slots : List SlotS
section
variable {n : PanS}
end
end Go.Proofs.YtaaokimiadfidaaGreatDoor
namespace Go.Proofs.YtaaokimiadfidaaGreatDoor
open Go.RowKit
set_option linter.unusedVariables false
set_option linter.unusedSimpArgs false
section
variable {P : Program} {B : Bs} {s : St'} {o : Oper} {K : St' → Prop} {V : Nat → Nat → Prop} {ops : Array Oper} {Q : Exit → St' → Prop} {n N : Nat} {L : Array Bool}
def VN (P : Program) (B : Bs) (V : Nat → Nat → Prop) (ops : Array Oper) (Q : Exit → St' → Prop) (n : Nat) (L : Array Bool) (s : St') (N : Nat) : Prop :=
 ∀ a w, R B s a w → w.heap.size = N → wpAnyE P .any ops (fun a w => ∃ s, Q .normal s ∧ R B s a w) (fun j => Ew B (V j)) n L a w
def VM (P : Program) (B : Bs) (V : Nat → Nat → Prop) (ops : Array Oper) (Q : Exit → St' → Prop) (n : Nat) (L : Array Bool) (s : St') (N : Nat) : Prop :=
 ∀ a w, R B s a w → N ≤ w.heap.size → wpAnyE P .any ops (fun a w => ∃ s, Q .normal s ∧ R B s a w) (fun j => Ew B (V j)) n L a w
def OpVN (P : Program) (B : Bs) (W : Nat → Prop) (s : St') (o : Oper) (x : AV) (N : Nat) : Prop :=
 ∀ a w, R B s a w → w.heap.size = N → ∃ v, (∀ w', Chg (fun b => B.str b ∨ W b) w w' → (execOp a.eval o).run P w' = .ok (.value v) w') ∧ Rep w (Zn B s.hp w) x v
theorem OpVN.of {W : Nat → Prop} {x : AV} (h : OpV P B W s o x) : OpVN P B W s o x N := fun a w hr _ => h a w hr
theorem new_keep {W : Nat → Prop} (hB : B.Ok) {a : Act} {w w' : World} (hr : R B s a w) (hW : ∀ b, W b → w.heap.size ≤ b) (hc : Chg (fun b => B.str b ∨ W b) w w') {b : Nat} (hZ : Zn B s.hp w b) : w'.heap[b]? = w.heap[b]? := by
 refine hc.block b hZ.1 ?_
 rintro (h | h)
 ·obtain ⟨h1, h2⟩ := hB.str b h
  exact (hZ.2.2 (hB.low b h1)).2 h
 ·exact absurd hZ.1 (Nat.not_lt.2 (hW b h))
theorem OpVN.loadK_at {W : Nat → Prop} {x : Operand} {t m k : Nat} {F : Nat → AV} (ho : o.op = .load t x) (hB : B.Ok) (hW : ∀ b, W b → N ≤ b) (hag : ∀ w, (isAgg t).run P w = .ok true w) (hsz : ∀ w, (sizeOf t).run P w = .ok k w) (hx : evO s x = some (.at_ m F)) (hm : Nat.ble k m = true) : OpVN P B W s o (.agg (tab k F)) N := by
 intro a w hr hN
 have := hr.ev hx
 generalize hv : a.eval x = u at this
 have hm' := Nat.le_of_ble_eq_true hm
 cases this with
 | at_ m f' b off c e u hZ hb hc hr' =>
  refine ⟨.agg ((List.range k).map u).toArray, fun w' hcw => ?_, .agg _ _ (by simp [tab_len]) fun j hj => ?_⟩
  ·have hb' := (new_keep hB hr (fun b h => hN ▸ hW b h) hcw hZ).trans hb
   have hcell : ∀ j v, ((List.range k).map u)[j]? = some v → w'.cell? ((⟨b, off, none⟩ : Addr).add j) = some v := by
    intro j v hj
    simp only [List.getElem?_map, Option.map_eq_some_iff] at hj
    obtain ⟨q, hq, rfl⟩ := hj
    obtain ⟨hlt, hq'⟩ := List.getElem?_eq_some_iff.1 hq
    simp at hlt hq'
    subst hq'
    rw [Addr.add_lit]
    simpa [World.cell?, hb'] using hc j (by omega)
   have hl := run_loadCells_list (P := P) w' ⟨b, off, none⟩ _ hcell
   simp only [List.length_map, List.length_range] at hl
   simp only [execOp, ho, hv, Instr.loadAt, Instr.sureAddr, loadVar, hag, hsz, hl, Sem.run_bind, Sem.run_pure, Result.andThen_ok, if_true]
  ·rw [tab_len] at hj
   rw [tab_get]
   simp [hj]
   exact hr' j (by omega)
theorem VN.take {i : Nat} {x : AV} (hi : ops[i]? = some o) (hs : Region.noSelect ops = true) (hf : Region.free .any ops L i = true) (hr : (Region.ready .any ops L).contains i = true) (hg : o.guard = none) (hd : okd B.nt o.dst = true)
  (hv : OpVN P B (Wi V ops i) s o x N) (h : VN P B V ops Q n (L.setIfInBounds i true) (s.put o.dst x) N) : VN P B V ops Q (n + 1) L s N := fun a w hR hN => by
 obtain ⟨v, h1, h2⟩ := hv a w hR hN
 exact wpAnyE_first (F := Ew B (Wi V ops i)) Ew.tr Ew.rf (fun x => Ew.rf x) Wi.of hi (Region.noSelect_spec hs) n L a w (Region.free_spec hi hf) (by simpa using hr) (.inl ⟨by simp [Region.wanted, hg], h1⟩) (h _ _ (hR.put _ hd _ _ h2) hN)
theorem VM.take {i : Nat} {x : AV} (hi : ops[i]? = some o) (hs : Region.noSelect ops = true) (hf : Region.free .any ops L i = true) (hr : (Region.ready .any ops L).contains i = true) (hg : o.guard = none) (hd : okd B.nt o.dst = true)
  (hv : OpV P B (Wi V ops i) s o x) (h : VM P B V ops Q n (L.setIfInBounds i true) (s.put o.dst x) N) : VM P B V ops Q (n + 1) L s N := fun a w hR hN => by
 obtain ⟨v, h1, h2⟩ := hv a w hR
 exact wpAnyE_first (F := Ew B (Wi V ops i)) Ew.tr Ew.rf (fun x => Ew.rf x) Wi.of hi (Region.noSelect_spec hs) n L a w (Region.free_spec hi hf) (by simpa using hr) (.inl ⟨by simp [Region.wanted, hg], h1⟩) (h _ _ (hR.put _ hd _ _ h2) hN)
theorem VM.done (hr : Region.ready .any ops L = []) (h : Q .normal s) : VM P B V ops Q n L s N := fun a w hR _ => by
 cases n with
 | zero => exact ⟨hr, s, h, hR⟩
 | succ n => exact ⟨fun _ => ⟨s, h, hR⟩, by rw [hr]; simp⟩
def OpM (P : Program) (B : Bs) (W : Nat → Prop) (s : St') (o : Oper) (K : St' → Prop) (N : Nat) : Prop :=
 ∀ a w, R B s a w → N ≤ w.heap.size → ∀ (next : Act → World → Prop) (Qx : Exit → Act → World → Prop), (∀ s' a' w', K s' → R B s' a' w' → Ew B W w w' → next a' w') → o.wp P a w next Qx
theorem OpM.alloc {W : Nat → Prop} {e : TypeId} {z : Value} {cs : List AV} (ho : o.op = .alloc e) (hB : B.Ok) (hd : okd B.nt o.dst = true) (hz : ∀ w, (zeroValue e).run P w = .ok z w) (hcs : cellsOf (.v z) = cs)
  (hK : ∀ g, N ≤ g → K ((St'.mk s.sl (s.hp ++ [.box g ⟨cs, e, cs.length⟩]) s.k).put o.dst (.v (.pointer (some ⟨g, 0, none⟩))))) : OpM P B W s o K N := by
 subst hcs
 intro a w hr hN next Qx hn
 have h1 := hr.newBox hB _ e _ (Rep.cells (.v z) rfl)
 unfold Oper.wp
 simp only [execOp, ho, Instr.alloc, newVar, newRow, Sem.run_bind, hz, run_newObj_alloc, Result.andThen_ok, Sem.run_pure]
 exact hn _ _ _ (hK _ hN) (h1.put _ hd _ _ (.v _)) (.ofN ((Chg.refl _ _).alloc _))
def EachM (P : Program) (B : Bs) (V : Nat → Nat → Prop) (ops : Array Oper) (Q : Exit → St' → Prop) (n : Nat) (L : Array Bool) (s : St') (N : Nat) : List Nat → Prop
 | [] => True
 | i :: r => (∃ o, ops[i]? = some o ∧ o.guard = none ∧ OpM P B (V i) s o (fun s' => VM P B V ops Q n (L.setIfInBounds i true) s' N) N) ∧ EachM P B V ops Q n L s N r
theorem VM.all {rs : List Nat} (hr : Region.ready .any ops L = rs) (hne : rs ≠ []) (h : EachM P B V ops Q n L s N rs) : VM P B V ops Q (n + 1) L s N := fun a w hR hN => by
 refine ⟨fun h0 => absurd (hr ▸ h0) hne, fun i hi => ?_⟩
 rw [hr] at hi
 have key : ∀ rs, EachM P B V ops Q n L s N rs → i ∈ rs → ∃ o, ops[i]? = some o ∧ o.guard = none ∧ OpM P B (V i) s o (fun s' => VM P B V ops Q n (L.setIfInBounds i true) s' N) N := by
  intro rs
  induction rs with
  | nil => intro _ h; simp at h
  | cons j r ih =>
   intro h hi
   rcases List.mem_cons.1 hi with rfl | hi
   ·exact h.1
   ·exact ih h.2 hi
 obtain ⟨o, ho, hg, hop⟩ := key rs h hi
 unfold wpOp
 simp only [ho]
 have hwant : Region.wanted o (yielded ops a.tmps) = true := by simp [Region.wanted, hg]
 rw [if_pos hwant]
 exact .inl (hop a w hR hN _ _ fun s' a' w' k1 k2 k3 => ⟨k3, k1 a' w' k2 (Nat.le_trans hN k3.size)⟩)
theorem VM.le {s' : St'} (h : Le B s s') (k : VM P B V ops Q n L s' N) : VM P B V ops Q n L s N := fun a w hr => k a w (h a w hr)
end
end Go.Proofs.YtaaokimiadfidaaGreatDoor
namespace Go.Proofs.YtaaokimiadfidaaGreatDoor
open Go.RowKit
set_option linter.unusedVariables false
set_option linter.unusedSimpArgs false
instance : Sx1 (List LookS) := ⟨fun x => avL x⟩
def mrgE (a b : List LookS) : Int := if lookF a ≠ 0 then lookF a else if lookF b ≠ 0 then lookF b else match mgo [] (a ++ b) with
 | none => 13
 | some _ => 0
def MrgIs (a b l : List LookS) : Prop := (mrgE a b ≠ 0 ∧ l = []) ∨ ∃ o, mrgE a b = 0 ∧ mgo [] (a ++ b) = some o ∧ l.Perm o ∧ OrdL ltLk l
end Go.Proofs.YtaaokimiadfidaaGreatDoor
namespace Go.Proofs.YtaaokimiadfidaaGreatDoor
open Go.RowKit
set_option linter.unusedVariables false
set_option linter.unusedSimpArgs false
def decB (i : Nat) : ByteArray := ⟨(Lib.decDigits i).toArray⟩
theorem itoa_100 {i : Nat} (hi : i < 100) : SpecN Tryz.prog 110 [avI (i : Int)] (fun y => y = avS (decB i)) := by
 intro w us ha
 rw [args1 ha]
 refine (Tryz.strconv_Itoa_small i hi w).mono ?_
 rintro e w' ⟨rfl, rfl⟩
 exact ⟨_, _, rfl, rfl, .v _, Chg.refl _ _, trivial⟩
theorem flat_pairs (xs : List PairS) : FlatA (rowL xs) := flat_rowL (fun x j hj => by
 match j, hj with
 | 0, _ => exact ⟨_, rfl⟩
 | 1, _ => exact ⟨_, rfl⟩) xs
section
variable {l : List LookS} {q : Nat} (hq : q < l.length)
include hq
end
end Go.Proofs.YtaaokimiadfidaaGreatDoor
namespace Go.Proofs.YtaaokimiadfidaaGreatDoor
open Go.RowKit
set_option linter.unusedVariables false
set_option linter.unusedSimpArgs false
def Zt (w : World) (A : Nat → Prop) (hp' : List Ent) (w' : World) : Nat → Prop := fun b => b < w'.heap.size ∧ ¬ BlkL hp' b ∧ (b < w.heap.size → A b)
def SpecTO (P : Program) (T : World → Nat → Prop) (str : Nat → Prop) (F : FuncId) (xs : List AV) (c : Nat) (G : AV → List Ent → Prop) : Prop :=
 ∀ (w : World) (A : Nat → Prop) (us : Array Value) (k : Nat), Args w A xs us → T w k → (∀ b, str b → ¬ A b) → k + c ≤ 1000000 →
  Calls P F us w fun e w' => ∃ y v hp', G y hp' ∧ e = .returned v ∧ Apart hp' ∧ Rep w' (Zt w A hp' w') y v ∧ (∀ e ∈ hp', EntR w' (Zt w A hp' w') e) ∧ (∀ b, BlkL hp' b → w.heap.size ≤ b) ∧ Chg str w w' ∧ T w' (k + c)
theorem SpecTO.mono {P : Program} {T : World → Nat → Prop} {str : Nat → Prop} {F : FuncId} {xs : List AV} {c : Nat} {G G' : AV → List Ent → Prop} (h : SpecTO P T str F xs c G) (hg : ∀ y hp', G y hp' → G' y hp') : SpecTO P T str F xs c G' := fun w A us k h1 h2 h3 h4 =>
 (h w A us k h1 h2 h3 h4).mono fun e w' ⟨y, v, hp', k1, k2⟩ => ⟨y, v, hp', hg _ _ k1, k2⟩
theorem SpecTO.of_VC {P : Program} {F : FuncId} {fn : Func} {c : Code} (hf : P.funcs[F]? = some fn) (hb : fn.body = some c) {xs : List AV} {G : AV → List Ent → Prop} {nt n : Nat} (hn : fn.ntmps = nt) (hle : xs.length ≤ nt) {T : World → Nat → Prop} {str low : Nat → Prop}
  (hok : ∀ w A k, T w k → (B1 w A nt str low T).Ok)
  (h : ∀ w A k, k + n ≤ 1000000 → (B1 w A nt str low T).Ok → VC P (B1 w A nt str low T) c (retS P fn fun y s => G y s.hp ∧ s.k ≤ k + n) ⟨slots0 0 xs, [], k⟩) : SpecTO P T str F xs n G := fun w A us k ha hT hSA hk =>
 (calls_of_VC (k := k) hf hb (B := B1 w A nt str low T) rfl hn.symm ha hSA hT (by omega) (h w A k hk (hok w A k hT))).mono fun e w' ⟨y, v, s, a, h1, h2, h3, h4⟩ => by
  have hB := hok w A k hT
  have hZ : ∀ b, Zn (B1 w A nt str low T) s.hp w' b → Zt w A s.hp w' b := fun b hb => ⟨hb.1, fun ⟨p, hp1, hp2⟩ => hb.2.1 p hp1 hp2, fun hl => (hb.2.2 hl).1.resolve_right (hb.2.2 hl).2⟩
  refine ⟨y, v, s.hp, h1.1, h2, h4.nodup, h3.keep fun b hb _ => ⟨rfl, hZ b hb⟩, fun p hp' => (h4.blocks p hp').keep (fun b hb _ => ⟨rfl, hZ b hb⟩) fun g _ => rfl, fun b ⟨p, hp1, hp2⟩ => ?_, h4.chg, hB.up h4.res h1.2⟩
  obtain ⟨q1, q2⟩ := h4.own p hp1 b hp2
  rcases Nat.lt_or_ge b w.heap.size with hl | hl
  ·exact absurd (hB.str b (q2 hl)).1 q1
  ·exact hl
section
variable {P : Program} {B : Bs} {W : Nat → Prop} {s : St'} {o : Oper} {K : St' → Prop} {a : Act} {w w' : World}
theorem R.afterT (hB : B.Ok) (hr : R B s a w) {hp' : List Ent} {k' : Nat} (hap : Apart hp') (hE : ∀ e ∈ hp', EntR w' (Zt w (Zo B s.hp) hp' w') e) (hnw : ∀ b, BlkL hp' b → w.heap.size ≤ b) (hc : Chg B.str w w') (hT : B.T w' k') :
  R B ⟨s.sl, s.hp ++ hp', k'⟩ a w' ∧ ∀ b, Zt w (Zo B s.hp) hp' w' b → Zn B (s.hp ++ hp') w' b := by
 have hw0 := hr.chg.size
 have hns : ∀ b, Zn B s.hp w b → ¬ B.str b := fun b hb hs => by
  obtain ⟨h1, h2⟩ := hB.str b hs
  exact (hb.2.2 (hB.low b h1)).2 hs
 have hz : ∀ b, Zn B s.hp w b → b < w.heap.size → w'.heap[b]? = w.heap[b]? ∧ Zn B (s.hp ++ hp') w' b := fun b hb hl => by
  refine ⟨hc.block b hl (hns b hb), Nat.lt_of_lt_of_le hl hc.size, fun p hp1 hpb => ?_, hb.2.2⟩
  rcases List.mem_append.1 hp1 with h | h
  ·exact hb.2.1 p h hpb
  ·have := hnw b ⟨p, h, hpb⟩; omega
 have hz2 : ∀ b, Zt w (Zo B s.hp) hp' w' b → Zn B (s.hp ++ hp') w' b := fun b hb => by
  refine ⟨hb.1, fun p hp1 hpb => ?_, fun h0 => (hb.2.2 (Nat.lt_of_lt_of_le h0 hw0)).2 h0⟩
  rcases List.mem_append.1 hp1 with h | h
  ·exact (hb.2.2 (hr.lt p h b hpb)).1 p h hpb
  ·exact hb.2.1 ⟨p, h, hpb⟩
 refine ⟨⟨fun t x hx => (hr.slots t x hx).keep hz, hr.size, hr.defs, fun p hp1 => ?_, ?_, hr.chg.trans (hc.mono fun b _ h => (hB.str b h).2), fun p hp1 g hg => ?_, hT⟩, hz2⟩
 ·rcases List.mem_append.1 hp1 with h | h
  ·exact (hr.blocks p h).keep hz fun g hg => hc.block g (hr.lt p h g hg) fun hs => (hr.own p h g hg).1 (hB.str g hs).1
  ·exact (hE p h).keep (fun b hb _ => ⟨rfl, hz2 b hb⟩) fun g _ => rfl
 ·unfold Apart
  rw [List.pairwise_append]
  exact ⟨hr.nodup, hap, fun p hp1 q hq g hpg hqg => by have := hr.lt p hp1 g hpg; have := hnw g ⟨q, hq, hqg⟩; omega⟩
 ·rcases List.mem_append.1 hp1 with h | h
  ·exact hr.own p h g hg
  ·have := hnw g ⟨p, h, hg⟩
   exact ⟨fun hlow => by have := hB.low g hlow; omega, fun h0 => by omega⟩
theorem OpE.callTO {f : FuncId} {args : Array Operand} {ts : Array TypeId} {xs : List AV} {G : AV → List Ent → Prop} {c : Nat} (kk : Nat) (hkk : s.k = kk) (ho : o.op = .call { callee := .value (.func f), args := args, argTypes := ts }) (hB : B.Ok) (hd : okd B.nt o.dst = true)
  (hcall : ∀ us w, (callFunc f us).run P w = .ok (.enter f us) w) (hxs : evL s args.toList = some xs) (hspec : SpecTO P B.T B.str f xs c G) (hk : kk + c ≤ 1000000) (hK : ∀ y hp', G y hp' → K ((St'.mk s.sl (s.hp ++ hp') (kk + c)).put o.dst y)) : OpE P B W s o K := by
 subst hkk
 intro a w hr next Qx hn
 have h1 := hspec w (Zo B s.hp) _ s.k (evL_args hr hxs) hr.res (fun b hb hA => (hA.2 (hB.low b (hB.str b hb).1)).2 hb) hk
 unfold Oper.wp
 simp only [execOp, ho, resolve, Act.eval, Deferred.ofValue, Sem.run_bind, Sem.run_pure, Result.andThen_ok, invoke, hcall, Array.empty_append, Array.append_empty]
 simp only [Oper.upon]
 refine h1.mono fun e w' hret => ?_
 obtain ⟨y, v, hp', h2, rfl, h3, h4, h5, h6, h7, h8⟩ := hret
 obtain ⟨hr', hz⟩ := hr.afterT hB h3 h5 h6 h7 h8
 exact hn _ _ _ (hK y hp' h2) (hr'.put _ hd _ _ (h4.keep fun b hb hl => ⟨rfl, hz b hb⟩)) (h7.mono fun b _ h => .inl h)
end
end Go.Proofs.YtaaokimiadfidaaGreatDoor
namespace Go.Proofs.YtaaokimiadfidaaGreatDoor
open Go.RowKit
set_option linter.unusedVariables false
set_option linter.unusedSimpArgs false
theorem encL_small (n : Int) : (Utf8.encode n).size ≤ 4 := by
 unfold Utf8.encode
 simp only
 repeat' split
 all_goals simp [ByteArray.size]
theorem getSet_lk {α : Type} {xs : List α} {q : Nat} {x d : α} (h : q < xs.length) : (xs.set q x).getD q d = x := by simp [h]
def nm3 : List ByteArray := [⟨#[99, 49]⟩, ⟨#[99, 50]⟩, ⟨#[114, 49]⟩]
def bdK (i : Nat) : ByteArray := ⟨#[98]⟩ ++ Utf8.encode (49 + (i : Int))
theorem bdK_size (i : Nat) : (bdK i).size ≤ 1000 := by
 have := encL_small (49 + (i : Int))
 show (⟨#[98]⟩ ++ Utf8.encode (49 + (i : Int)) : ByteArray).size ≤ 1000
 rw [ByteArray.size_append]; have h1 : (⟨#[98]⟩ : ByteArray).size = 1 := rfl; omega
theorem nm3_size (q : Nat) : (nm3.getD q ByteArray.empty).size ≤ 1000 := by
 match q with
 | 0 => decide
 | 1 => decide
 | 2 => decide
 | q + 3 => simp [nm3]
def BdG (m : Nat) (s : ByteArray) : Prop := s.size ≤ 1000 ∧ (keyF s = true → ∃ i, i < m ∧ s = bdK i)
def NmG (s : ByteArray) : Prop := s.size ≤ 1000 ∧ (keyF s = true → s ∈ nm3)
def SmG (s : ByteArray) : Prop := s.size ≤ 1000
def AtG (m : Nat) (v : Int) : Prop := (-1 ≤ v ∧ v ≤ 345686400000) ∧ (0 ≤ v → v ≤ 345686399999 → v ≤ 10 * (m : Int))
theorem AtG.mono {m n : Nat} {v : Int} (h : AtG m v) (hn : m ≤ n) : AtG n v := ⟨h.1, fun h1 h2 => by have := h.2 h1 h2; omega⟩
theorem AtG.neg {m : Nat} : AtG m (-1) := ⟨by omega, fun h => by omega⟩
theorem AtG.end_ {m : Nat} : AtG m 345686400000 := ⟨by omega, fun _ h => by omega⟩
structure LkG (m : Nat) (x : LookS) : Prop where
 board : BdG m x.board
 name : NmG x.name
 at_ : AtG m x.at_
 machine : SmG x.machine
 nozzle : SmG x.nozzle
 reel : SmG x.reel
theorem BdG.mono {m n : Nat} {s : ByteArray} (h : BdG m s) (hn : m ≤ n) : BdG n s := ⟨h.1, fun hk => by obtain ⟨i, hi, e⟩ := h.2 hk; exact ⟨i, by omega, e⟩⟩
theorem LkG.mono {m n : Nat} {x : LookS} (h : LkG m x) (hn : m ≤ n) : LkG n x := ⟨h.board.mono hn, h.name, h.at_.mono hn, h.machine, h.nozzle, h.reel⟩
theorem keyF_none : keyF ⟨#[]⟩ = false := by decide +kernel
theorem keyF_A : keyF ⟨#[65]⟩ = false := by decide +kernel
theorem BdG.none (m : Nat) : BdG m ⟨#[]⟩ := ⟨by decide, fun h => by rw [keyF_none] at h; cases h⟩
theorem BdG.b1 {m : Nat} (h : 0 < m) : BdG m ⟨#[98, 49]⟩ := ⟨by decide, fun _ => ⟨0, h, by decide +kernel⟩⟩
theorem BdG.k {m i : Nat} (h : i < m) : BdG m (bdK i) := ⟨bdK_size i, fun _ => ⟨i, h, rfl⟩⟩
theorem NmG.none : NmG ⟨#[65]⟩ := ⟨by decide, fun h => by rw [keyF_A] at h; cases h⟩
theorem NmG.c1 : NmG ⟨#[99, 49]⟩ := ⟨by decide, fun _ => by simp [nm3]⟩
theorem NmG.k (q : Nat) : NmG (nm3.getD q ByteArray.empty) := ⟨nm3_size q, fun h => by
 match q with
 | 0 => simp [nm3]
 | 1 => simp [nm3]
 | 2 => simp [nm3]
 | q + 3 =>
  have e : nm3.getD (q + 3) ByteArray.empty = ⟨#[]⟩ := by simp [nm3]; rfl
  rw [e, keyF_none] at h; cases h⟩
theorem LkG.zero : LkG 0 default := ⟨BdG.none 0, ⟨by decide, fun h => by have : keyF ⟨#[]⟩ = true := h; rw [keyF_none] at this; cases this⟩, ⟨by decide, by decide⟩, by unfold SmG; decide, by unfold SmG; decide, by unfold SmG; decide⟩
theorem LkG.getD {m : Nat} {l : List LookS} (h : ∀ x ∈ l, LkG m x) (i : Nat) : LkG m (l.getD i default) := by
 rw [List.getD_eq_getElem?_getD]
 cases hi : l[i]? with
 | none => exact LkG.zero.mono (Nat.zero_le _)
 | some x => exact h x (List.mem_of_getElem? hi)
theorem LkG.sm {m : Nat} {l : List LookS} (h : ∀ x ∈ l, LkG m x) (hl : l.length ≤ 1000) : SmLk l := ⟨by omega, fun i => by have := (LkG.getD h i).board.1; omega, fun i => by have := (LkG.getD h i).name.1; omega, fun i => by have := (LkG.getD h i).machine; unfold SmG at this; omega, fun i => by have := (LkG.getD h i).nozzle; unfold SmG at this; omega, fun i => by have := (LkG.getD h i).reel; unfold SmG at this; omega⟩
theorem LkG.snoc {m : Nat} {l : List LookS} (h : ∀ x ∈ l, LkG m x) {y : LookS} (hy : LkG m y) : ∀ x ∈ l ++ [y], LkG m x := fun x hx => by
 rcases List.mem_append.1 hx with hx | hx
 ·exact h x hx
 ·simp at hx; subst hx; exact hy
theorem LkG.setD {m : Nat} {l : List LookS} (h : ∀ x ∈ l, LkG m x) (q : Nat) {y : LookS} (hy : LkG m y) : ∀ x ∈ l.set q y, LkG m x := fun x hx => by
 rcases List.mem_or_eq_of_mem_set hx with h' | rfl
 ·exact h x h'
 ·exact hy
theorem lk_upd {a b : LookS} {k : Nat} (h0 : k = 0 ∨ a.board = b.board) (h1 : k = 1 ∨ a.name = b.name) (h2 : k = 2 ∨ a.at_ = b.at_) (h3 : k = 3 ∨ a.verdict = b.verdict) (h4 : k = 4 ∨ a.bad = b.bad) (h5 : k = 5 ∨ a.machine = b.machine) (h6 : k = 6 ∨ a.nozzle = b.nozzle) (h7 : k = 7 ∨ a.reel = b.reel) : ∀ i, i < 8 → i ≠ k → Sxc.cell a i = Sxc.cell b i := fun i hi hn => by
 match i, hi with
 | 0, _ => show avS a.board = avS b.board; rw [h0.resolve_left fun h => hn h.symm]
 | 1, _ => show avS a.name = avS b.name; rw [h1.resolve_left fun h => hn h.symm]
 | 2, _ => show avI a.at_ = avI b.at_; rw [h2.resolve_left fun h => hn h.symm]
 | 3, _ => show avI a.verdict = avI b.verdict; rw [h3.resolve_left fun h => hn h.symm]
 | 4, _ => show avB a.bad = avB b.bad; rw [h4.resolve_left fun h => hn h.symm]
 | 5, _ => show avS a.machine = avS b.machine; rw [h5.resolve_left fun h => hn h.symm]
 | 6, _ => show avS a.nozzle = avS b.nozzle; rw [h6.resolve_left fun h => hn h.symm]
 | 7, _ => show avS a.reel = avS b.reel; rw [h7.resolve_left fun h => hn h.symm]
def AllG (Pr : ByteArray → Prop) : List AV → Prop
 | [] => True
 | x :: r => (∃ i : ByteArray, Pr i ∧ x = avS i) ∧ AllG Pr r
theorem AllG.nil {Pr : ByteArray → Prop} : AllG Pr [] := trivial
theorem AllG.cons {Pr : ByteArray → Prop} {i : ByteArray} {r : List AV} (h : Pr i) (hr : AllG Pr r) : AllG Pr (avS i :: r) := ⟨⟨i, h, rfl⟩, hr⟩
theorem AllG.get {Pr : ByteArray → Prop} : ∀ {l : List AV} {q : Nat}, AllG Pr l → q < l.length → ∃ i : ByteArray, Pr i ∧ l.getD q .any = avS i
 | [], q, _, h => by simp at h
 | x :: r, 0, h, _ => by simpa using h.1
 | x :: r, q + 1, h, hq => by simpa using AllG.get h.2 (by simpa using hq)
set_option maxRecDepth 100000 in
theorem some_G {p : Nat} {L : List Int} {n : Nat} {l : List AV} (Pr : ByteArray → Prop) (hn : l.length = n) (h0 : 0 < n) (h1 : n ≤ 1000) (hall : AllG Pr l) :
  SpecT Tryz.prog (TT p L) (fun b => b = p) 16 [sp p, .im n 1 fun j => l.getD j .any] 1 (fun y => ∃ r : ByteArray, Pr r ∧ y = avS r) := by
 refine SpecT.of_VC Tryz.func16 rfl Tryz.ntmps16 (Nle rfl) (low := (fun b => b ≤ p)) (fun w A k h => h.ok) fun w A k hk hB => ?_
 have hnew : True := trivial
 refine VC.sr ?_
 refine VO.ma rfl rfl rfl rfl ?_
 refine VO.nil ?_
 refine VC.sr ?_
 refine VO.mv rfl rfl rfl rfl ?_
 refine VO.mv rfl rfl rfl rfl ?_
 refine VO.mv rfl rfl rfl rfl ?_
 refine VO.val rfl rfl (OpV.len_im rfl Tryz.underlying67 rfl) ?_
 refine VO.op rfl (OpE.callT' (k) rfl rfl hB rfl Tryz.call103 rfl ((next_T (by omega))) (by omega) ?_)
 rintro _ ⟨r9, hr9, rfl⟩
 refine VO.val rfl rfl (OpV.indexAddr_1 rfl Tryz.underlying67 Tryz.sizeOf9 rfl rfl (Int.toNat_of_nonneg (by omega)).symm (by omega)) ?_
 refine VO.val rfl rfl (OpV.load_at rfl hB OutW.no Tryz.isAgg9 rfl rfl) ?_
 refine VO.ma rfl rfl rfl rfl ?_
 refine VO.nil ?_
 refine VC.ret ?_
 exact Exists.intro _ (And.intro (RetV.one Tryz.results16 (ResV.tmp rfl)) (And.intro (hall.get (by omega)) ((show k + 1 ≤ k + 1 by omega))))
def AllJ (Pr : Int → Prop) : List AV → Prop
 | [] => True
 | x :: r => (∃ i : Int, Pr i ∧ x = avI i) ∧ AllJ Pr r
theorem AllJ.nil {Pr : Int → Prop} : AllJ Pr [] := trivial
theorem AllJ.cons {Pr : Int → Prop} {i : Int} {r : List AV} (h : Pr i) (hr : AllJ Pr r) : AllJ Pr (avI i :: r) := ⟨⟨i, h, rfl⟩, hr⟩
theorem AllJ.get {Pr : Int → Prop} : ∀ {l : List AV} {q : Nat}, AllJ Pr l → q < l.length → ∃ i : Int, Pr i ∧ l.getD q .any = avI i
 | [], q, _, h => by simp at h
 | x :: r, 0, h, _ => by simpa using h.1
 | x :: r, q + 1, h, hq => by simpa using AllJ.get h.2 (by simpa using hq)
set_option maxRecDepth 100000 in
theorem pick_J {p : Nat} {L : List Int} {n : Nat} {l : List AV} (Pr : Int → Prop) (hn : l.length = n) (h0 : 0 < n) (h1 : n ≤ 1000) (hall : AllJ Pr l) :
  SpecT Tryz.prog (TT p L) (fun b => b = p) 15 [sp p, .im n 1 fun j => l.getD j .any] 1 (fun y => ∃ r : Int, Pr r ∧ y = avI r) := by
 refine SpecT.of_VC Tryz.func15 rfl Tryz.ntmps15 (Nle rfl) (low := (fun b => b ≤ p)) (fun w A k h => h.ok) fun w A k hk hB => ?_
 have hnew : True := trivial
 refine VC.sr ?_
 refine VO.ma rfl rfl rfl rfl ?_
 refine VO.nil ?_
 refine VC.sr ?_
 refine VO.mv rfl rfl rfl rfl ?_
 refine VO.mv rfl rfl rfl rfl ?_
 refine VO.mv rfl rfl rfl rfl ?_
 refine VO.val rfl rfl (OpV.len_im rfl Tryz.underlying22 rfl) ?_
 refine VO.op rfl (OpE.callT' (k) rfl rfl hB rfl Tryz.call103 rfl ((next_T (by omega))) (by omega) ?_)
 rintro _ ⟨r9, hr9, rfl⟩
 refine VO.val rfl rfl (OpV.indexAddr_1 rfl Tryz.underlying22 Tryz.sizeOf3 rfl rfl (Int.toNat_of_nonneg (by omega)).symm (by omega)) ?_
 refine VO.val rfl rfl (OpV.load_at rfl hB OutW.no Tryz.isAgg3 rfl rfl) ?_
 refine VO.ma rfl rfl rfl rfl ?_
 refine VO.nil ?_
 refine VC.ret ?_
 exact Exists.intro _ (And.intro (RetV.one Tryz.results15 (ResV.tmp rfl)) (And.intro (hall.get (by omega)) ((show k + 1 ≤ k + 1 by omega))))
set_option maxRecDepth 100000 in
theorem odd_L {p : Nat} {L : List Int}  :
  SpecT Tryz.prog (TT p L) (fun b => b = p) 104 [sp p, avI 1, avI 5] 2 (fun y => ∃ r : Int, y = avI r) := by
 refine SpecT.of_VC Tryz.func104 rfl Tryz.ntmps104 (Nle rfl) (low := (fun b => b ≤ p)) (fun w A k h => h.ok) fun w A k hk hB => ?_
 have hnew : True := trivial
 refine VC.sr ?_
 refine VO.ma rfl rfl rfl rfl ?_
 refine VO.nil ?_
 refine VC.seq ?_
 refine VC.sr ?_
 refine VO.mv rfl rfl rfl rfl ?_
 refine VO.op rfl (OpE.callT' (k) rfl rfl hB rfl Tryz.call17 rfl ((flip_T (by omega))) (by omega) ?_)
 rintro _ ⟨r8, rfl⟩
 refine VO.nil ?_
 refine VC.cond rfl (fun aH1b => ?_) (fun aH1b => ?_)
 ·have aH1 := aH1b
  try simp only [qqT, qqF, qqN, qqM, qqL, qqE] at aH1
  refine VC.sr ?_
  refine VO.mv rfl rfl rfl rfl ?_
  refine VO.mv rfl rfl rfl rfl ?_
  refine VO.val rfl rfl (OpV.sub rfl rfl rfl (by unfold fits; omega)) ?_
  refine VO.mv rfl rfl rfl rfl ?_
  refine VO.val rfl rfl (OpV.add rfl rfl rfl (by unfold fits; omega)) ?_
  refine VO.mv rfl rfl rfl rfl ?_
  refine VO.mv rfl rfl rfl rfl ?_
  refine VO.op rfl (OpE.buildSlice (zc := #[.int .i64 0, .int .i64 0, .int .i64 0, .int .i64 0, .int .i64 0, .int .i64 0]) rfl hB rfl Tryz.underlying22 Tryz.sizeOf3 Tryz.zeroValue3 (by decide) (by decide) (by kernel_rfl) rfl rfl ?_)
  refine VO.op rfl (OpE.callT' (k + 1) rfl rfl hB rfl Tryz.call15 rfl (pick_X (by rfl) (by decide) (by decide) (by repeat (first | exact AllX.nil | refine AllX.cons ?_))) (by omega) ?_)
  rintro _ ⟨r17, rfl⟩
  refine VO.ma rfl rfl rfl rfl ?_
  refine VO.nil ?_
  refine VC.ret ?_
  exact Exists.intro _ (And.intro (RetV.one Tryz.results104 (ResV.tmp rfl)) (And.intro (⟨_, rfl⟩) ((show k + 1 + 1 ≤ k + 2 by omega))))
 ·have aH1 := aH1b
  try simp only [qqT, qqF, qqN, qqM, qqL, qqE] at aH1
  refine VC.skip ?_
  refine VC.sr ?_
  refine VO.mv rfl rfl rfl rfl ?_
  refine VO.mv rfl rfl rfl rfl ?_
  refine VO.mv rfl rfl rfl rfl ?_
  refine VO.op rfl (OpE.callT' (k + 1) rfl rfl hB rfl Tryz.call14 rfl ((range_T (by omega) (by omega) (by omega))) (by omega) ?_)
  rintro _ ⟨r21, hr21, rfl⟩
  refine VO.ma rfl rfl rfl rfl ?_
  refine VO.nil ?_
  refine VC.ret ?_
  exact Exists.intro _ (And.intro (RetV.one Tryz.results104 (ResV.tmp rfl)) (And.intro (⟨_, rfl⟩) ((show k + 1 + 1 ≤ k + 2 by omega))))
abbrev xL (l : List LookS) (m : Nat) : LookS := l.getD m default
abbrev pL (g o : Nat) : AV := .v (.pointer (some ⟨g, o, none⟩))
abbrev iL (n : Nat) (cs : List AV) : AV := .im n 1 (fun j => cs.getD j .any)
end Go.Proofs.YtaaokimiadfidaaGreatDoor
namespace Go.Proofs.YtaaokimiadfidaaGreatDoor
open Go.RowKit
set_option linter.unusedVariables false
set_option linter.unusedSimpArgs false
section
variable {m : Nat} {l : List LookS} (hok : ∀ x ∈ l, LkG m x) (i : Nat)
include hok
theorem lk_s1 {r r' : ByteArray} (h1 : BdG m r) (h2 : NmG r') : ∀ x ∈ (l.set i ({l.getD i default with board := r} : LookS)).set i ({l.getD i default with board := r, name := r'} : LookS), LkG m x :=
 have hx := LkG.getD hok i
 LkG.setD (LkG.setD hok i (y := {l.getD i default with board := r}) ⟨h1, hx.name, hx.at_, hx.machine, hx.nozzle, hx.reel⟩) i (y := {l.getD i default with board := r, name := r'}) ⟨h1, h2, hx.at_, hx.machine, hx.nozzle, hx.reel⟩
theorem lk_s2 {r r' : Int} (h1 : AtG m r) : ∀ x ∈ (l.set i ({l.getD i default with at_ := r} : LookS)).set i ({l.getD i default with at_ := r, verdict := r'} : LookS), LkG m x :=
 have hx := LkG.getD hok i
 LkG.setD (LkG.setD hok i (y := {l.getD i default with at_ := r}) ⟨hx.board, hx.name, h1, hx.machine, hx.nozzle, hx.reel⟩) i (y := {l.getD i default with at_ := r, verdict := r'}) ⟨hx.board, hx.name, h1, hx.machine, hx.nozzle, hx.reel⟩
theorem lk_s3 {r r' r2 : ByteArray} (h1 : r.size ≤ 1000) (h2 : r'.size ≤ 1000) (h3 : r2.size ≤ 1000) : ∀ x ∈ ((l.set i ({l.getD i default with machine := r} : LookS)).set i ({l.getD i default with machine := r, nozzle := r'} : LookS)).set i ({l.getD i default with machine := r, nozzle := r', reel := r2} : LookS), LkG m x :=
 have hx := LkG.getD hok i
 LkG.setD (LkG.setD (LkG.setD hok i (y := {l.getD i default with machine := r}) ⟨hx.board, hx.name, hx.at_, h1, hx.nozzle, hx.reel⟩) i (y := {l.getD i default with machine := r, nozzle := r'}) ⟨hx.board, hx.name, hx.at_, h1, h2, hx.reel⟩) i (y := {l.getD i default with machine := r, nozzle := r', reel := r2}) ⟨hx.board, hx.name, hx.at_, h1, h2, h3⟩
end
set_option maxRecDepth 100000 in
set_option maxHeartbeats 40000000 in
theorem looks_O {p : Nat} {L : List Int} {m : Nat} (hm : m ≤ 6) :
    SpecTO Tryz.prog (TT p L) (fun b => b = p) 13 [sp p, avI (m : Int)] 200 (fun y hp' => ∃ (l : List LookS) (u : Value), (l.length ≤ 3 * m ∧ ∀ x ∈ l, LkG m x) ∧ y = .v u ∧ hp' = [.row u l.length 8 (rowL l) 33]) := by
  refine SpecTO.of_VC Tryz.func13 rfl Tryz.ntmps13 (Nle rfl) (low := (fun b => b ≤ p)) (fun w A k h => h.ok) fun w A k hk hB => ?_
  have hnew : True := trivial
  refine VC.sr ?_
  refine VO.ma rfl rfl rfl rfl ?_
  refine VO.nil ?_
  refine VC.sr ?_
  refine VO.ma rfl rfl rfl rfl ?_
  refine VO.nil ?_
  refine VC.sr ?_
  refine VO.ma rfl rfl rfl rfl ?_
  refine VO.nil ?_
  refine VC.seq ?_
  refine VC.sr ?_
  refine VO.mv rfl rfl rfl rfl ?_
  refine VO.mv rfl rfl rfl rfl ?_
  refine VO.nil ?_
  refine VC.block ?_
  refine VC.le _ (Le.nilRow 8 33) ?_
  refine VC.loopK [(0, _), (11, _)] ⟨rfl, rfl, trivial⟩ ({t : (Value × Int) × List LookS × Nat // t.2.2 ≤ m ∧ t.2.1.length ≤ 3 * t.2.2 ∧ (0 ≤ t.1.2 ∧ t.1.2 ≤ 10 * t.2.2) ∧ ∀ x ∈ t.2.1, LkG m x}) (fun (iZ : {t : (Value × Int) × List LookS × Nat // t.2.2 ≤ m ∧ t.2.1.length ≤ 3 * t.2.2 ∧ (0 ≤ t.1.2 ∧ t.1.2 ≤ 10 * t.2.2) ∧ ∀ x ∈ t.2.1, LkG m x}) => match iZ with | ⟨⟨⟨u, atv⟩, l, q⟩, hq, hl, hat, hok⟩ => [(5, .v u), (6, avI atv), (12, avI (q : Int))]) (fun (iZ : {t : (Value × Int) × List LookS × Nat // t.2.2 ≤ m ∧ t.2.1.length ≤ 3 * t.2.2 ∧ (0 ≤ t.1.2 ∧ t.1.2 ≤ 10 * t.2.2) ∧ ∀ x ∈ t.2.1, LkG m x}) => match iZ with | ⟨⟨⟨u, atv⟩, l, q⟩, hq, hl, hat, hok⟩ => [.row u l.length 8 (rowL l) 33]) (fun (iZ : {t : (Value × Int) × List LookS × Nat // t.2.2 ≤ m ∧ t.2.1.length ≤ 3 * t.2.2 ∧ (0 ≤ t.1.2 ∧ t.1.2 ≤ 10 * t.2.2) ∧ ∀ x ∈ t.2.1, LkG m x}) => match iZ with | ⟨⟨⟨u, atv⟩, l, q⟩, hq, hl, hat, hok⟩ => k + 20 * q) (fun (iZ : {t : (Value × Int) × List LookS × Nat // t.2.2 ≤ m ∧ t.2.1.length ≤ 3 * t.2.2 ∧ (0 ≤ t.1.2 ∧ t.1.2 ≤ 10 * t.2.2) ∧ ∀ x ∈ t.2.1, LkG m x}) => match iZ with | ⟨⟨⟨u, atv⟩, l, q⟩, hq, hl, hat, hok⟩ => m - q) ⟨((.slice none 0 0, 0), [], 0), Nat.zero_le _, Nat.zero_le _, ⟨Int.le_refl _, Int.le_refl _⟩, fun x h => by simp at h⟩ (Le.mk hB [0] ⟨rfl, rfl, rfl, rfl, rfl, trivial⟩ rfl rfl (show k ≤ k + 20 * 0 by omega)) ?_
  rintro ⟨⟨⟨u, atv⟩, l, q⟩, hq, hl, hat, hok⟩
  show VC _ _ _ _ ⟨[(5, .v u), (6, avI atv), (12, avI (q : Int))] ++ [(0, _), (11, _)], [.row u l.length 8 (rowL l) 33], k + 20 * q⟩
  simp only at hq hl hat hok
  refine VC.sr ?_
  refine VO.val rfl rfl (OpV.lss rfl rfl rfl) ?_
  refine VO.nil ?_
  refine VC.seq ?_
  refine VC.cond rfl (fun aH1b => ?_) (fun aH1b => ?_)
  · have aH1 := aH1b
    try simp only [qqT, qqF, qqN, qqM, qqL, qqE] at aH1
    refine VC.skip ?_
    refine VC.seq ?_
    refine VC.block ?_
    refine VC.sr ?_
    refine VO.mv rfl rfl rfl rfl ?_
    refine VO.ma rfl rfl rfl rfl ?_
    refine VO.nil ?_
    refine VC.sr ?_
    refine VO.mv rfl rfl rfl rfl ?_
    refine VO.mv rfl rfl rfl rfl ?_
    refine VO.op rfl (OpE.buildSlice (zc := #[.int .i64 0, .int .i64 0, .int .i64 0, .int .i64 0]) rfl hB rfl Tryz.underlying22 Tryz.sizeOf3 Tryz.zeroValue3 (by decide) (by decide) (by kernel_rfl) rfl rfl ?_)
    refine VO.op rfl (OpE.callT' (k + 20 * q) rfl rfl hB rfl Tryz.call15 rfl ((pick_T 0 10 (by rfl) (by decide) (by decide) (by repeat (first | exact AllI.nil | refine AllI.cons (by omega) ?_)))) (by omega) ?_)
    rintro _ ⟨r18, hr18, rfl⟩
    refine VO.val rfl rfl (OpV.add rfl rfl rfl (by unfold fits; omega)) ?_
    refine VO.ma rfl rfl rfl rfl ?_
    refine VO.nil ?_
    refine VC.sr ?_
    refine VO.op rfl (OpE.buildSlice (zc := #[.string ⟨#[]⟩, .string ⟨#[]⟩, .string ⟨#[]⟩]) rfl hB rfl Tryz.underlying67 Tryz.sizeOf9 Tryz.zeroValue9 (by decide) (by decide) (by kernel_rfl) rfl rfl ?_)
    refine VO.le _ (Le.recast (t := 20) (y := avStrs nm3) rfl (fun w Z u h => Rep.strs (xs := nm3) rfl h)) ?_
    refine VO.val rfl rfl (OpV.len_im rfl Tryz.underlying67 rfl) ?_
    refine VO.mv rfl rfl rfl rfl ?_
    refine VO.nil ?_
    refine VC.block ?_
    refine VC.loopK [(0, _), (6, _), (7, _), (11, _), (12, _), (20, _), (21, _)] ⟨rfl, rfl, rfl, rfl, rfl, rfl, rfl, trivial⟩ ({t : Value × List LookS × Nat // t.2.2 ≤ 3 ∧ t.2.1.length ≤ 3 * q + t.2.2 ∧ ∀ x ∈ t.2.1, LkG m x}) (fun (iZ : {t : Value × List LookS × Nat // t.2.2 ≤ 3 ∧ t.2.1.length ≤ 3 * q + t.2.2 ∧ ∀ x ∈ t.2.1, LkG m x}) => match iZ with | ⟨⟨u, l, r⟩, hr, hl, hok⟩ => [(5, .v u), (22, avI (r : Int))]) (fun (iZ : {t : Value × List LookS × Nat // t.2.2 ≤ 3 ∧ t.2.1.length ≤ 3 * q + t.2.2 ∧ ∀ x ∈ t.2.1, LkG m x}) => match iZ with | ⟨⟨u, l, r⟩, hr, hl, hok⟩ => [.row u l.length 8 (rowL l) 33]) (fun (iZ : {t : Value × List LookS × Nat // t.2.2 ≤ 3 ∧ t.2.1.length ≤ 3 * q + t.2.2 ∧ ∀ x ∈ t.2.1, LkG m x}) => match iZ with | ⟨⟨u, l, r⟩, hr, hl, hok⟩ => k + 20 * q + 1 + 6 * r) (fun (iZ : {t : Value × List LookS × Nat // t.2.2 ≤ 3 ∧ t.2.1.length ≤ 3 * q + t.2.2 ∧ ∀ x ∈ t.2.1, LkG m x}) => match iZ with | ⟨⟨u, l, r⟩, hr, hl, hok⟩ => 3 - r) ⟨(u, l, 0), Nat.zero_le _, by show l.length ≤ 3 * q + 0; omega, hok⟩ (Le.mk hB [0] ⟨rfl, rfl, rfl, rfl, rfl, rfl, rfl, rfl, rfl, trivial⟩ rfl rfl (show k + 20 * q + 1 ≤ k + 20 * q + 1 + 6 * 0 by omega)) ?_
    rintro ⟨⟨u, l, r⟩, hr, hl, hok⟩
    show VC _ _ _ _ ⟨[(5, .v u), (22, avI (r : Int))] ++ [(0, _), (6, _), (7, _), (11, _), (12, _), (20, _), (21, _)], [.row u l.length 8 (rowL l) 33], k + 20 * q + 1 + 6 * r⟩
    simp only at hr hl hok
    have hn3 : nm3.length = 3 := rfl
    refine VC.sr ?_
    refine VO.val rfl rfl (OpV.lss rfl rfl rfl) ?_
    refine VO.nil ?_
    refine VC.seq ?_
    refine VC.cond rfl (fun aH2b => ?_) (fun aH2b => ?_)
    · have aH2 := aH2b
      try simp only [qqT, qqF, qqN, qqM, qqL, qqE] at aH2
      refine VC.skip ?_
      refine VC.seq ?_
      refine VC.block ?_
      refine VC.sr ?_
      refine VO.val rfl rfl (OpV.indexAddr_1 rfl Tryz.underlying67 Tryz.sizeOf9 rfl rfl rfl (by show r < 3; omega)) ?_
      refine VO.val rfl rfl (OpV.load_at rfl hB OutW.no Tryz.isAgg9 rfl rfl) ?_
      refine VO.ma rfl rfl rfl rfl ?_
      refine VO.nil ?_
      refine VC.seq ?_
      refine VC.sr ?_
      refine VO.mv rfl rfl rfl rfl ?_
      refine VO.op rfl (OpE.callT' (k + 20 * q + 1 + 6 * r) rfl rfl hB rfl Tryz.call17 rfl ((flip_T (by omega))) (by omega) ?_)
      rintro _ ⟨r27, rfl⟩
      refine VO.nil ?_
      refine VC.cond rfl (fun aH3b => ?_) (fun aH3b => ?_)
      · have aH3 := aH3b
        try simp only [qqT, qqF, qqN, qqM, qqL, qqE] at aH3
        refine VC.exit ?_
        refine VC.region ?_
        refine VO.val rfl rfl (OpV.add rfl rfl rfl (by unfold fits; omega)) ?_
        refine VO.mv rfl rfl rfl rfl ?_
        refine VO.nil ?_
        exact Exists.intro (⟨(u, l, r + 1), by show r + 1 ≤ 3; omega, by show l.length ≤ 3 * q + (r + 1); omega, hok⟩) (And.intro (Le.mk hB [0] ⟨rfl, rfl, rfl, rfl, rfl, rfl, rfl, rfl, rfl, trivial⟩ rfl (by dsimp only; first | rfl | (rw [List.length_append]; rfl)) (show k + 20 * q + 1 + 6 * r + 1 ≤ k + 20 * q + 1 + 6 * (r + 1) by omega)) (by first | omega | (show _ < _; omega) | (simp only []; omega)))
      · have aH3 := aH3b
        try simp only [qqT, qqF, qqN, qqM, qqL, qqE] at aH3
        refine VC.skip ?_
        refine VC.region ?_
        refine VO.mv rfl rfl rfl rfl ?_
        refine VO.mv rfl rfl rfl rfl ?_
        refine VO.val rfl rfl (OpV.add rfl rfl rfl (by unfold fits; omega)) ?_
        refine VO.val rfl rfl (OpV.conv rfl Tryz.underlying3 Tryz.underlying21 rfl (IntWalk.i32_in _ (by omega))) ?_
        refine VO.val rfl rfl (OpV.convStr rfl Tryz.underlying21 Tryz.underlying9 rfl) ?_
        refine VO.val rfl rfl (OpV.sadd rfl rfl rfl (by have := encL_small (49 + (q : Int)); have h1 : (⟨#[98]⟩ : ByteArray).size = 1 := rfl; omega)) ?_
        refine VO.mv rfl rfl rfl rfl ?_
        refine VO.mv rfl rfl rfl rfl ?_
        refine VO.mv rfl rfl rfl rfl ?_
        refine VO.op rfl (OpE.buildSlice (zc := #[.int .i64 0, .int .i64 0, .int .i64 0, .int .i64 0, .int .i64 0, .int .i64 0, .int .i64 0]) rfl hB rfl Tryz.underlying22 Tryz.sizeOf3 Tryz.zeroValue3 (by decide) (by decide) (by kernel_rfl) rfl rfl ?_)
        refine VO.op rfl (OpE.callT' (k + 20 * q + 1 + 6 * r + 1) rfl rfl hB rfl Tryz.call15 rfl (pick_X (by rfl) (by decide) (by decide) (by repeat (first | exact AllX.nil | refine AllX.cons ?_))) (by omega) ?_)
        rintro _ ⟨r38, rfl⟩
        refine VO.mv rfl rfl rfl rfl ?_
        refine VO.op rfl (OpE.callT' (k + 20 * q + 1 + 6 * r + 1 + 1) rfl rfl hB rfl Tryz.call17 rfl ((flip_T (by omega))) (by omega) ?_)
        rintro _ ⟨r40, rfl⟩
        refine VO.mv rfl rfl rfl rfl ?_
        refine VO.op rfl (OpE.buildSlice (zc := #[.string ⟨#[]⟩, .string ⟨#[]⟩]) rfl hB rfl Tryz.underlying67 Tryz.sizeOf9 Tryz.zeroValue9 (by decide) (by decide) (by kernel_rfl) rfl rfl ?_)
        refine VO.op rfl (OpE.callT' (k + 20 * q + 1 + 6 * r + 1 + 1 + 1) rfl rfl hB rfl Tryz.call16 rfl ((some_T 1000 (by rfl) (by decide) (by decide) (by repeat (first | exact AllS.nil | refine AllS.cons (by first | decide | omega) ?_)))) (by omega) ?_)
        rintro _ ⟨r43, hr43, rfl⟩
        refine VO.mv rfl rfl rfl rfl ?_
        refine VO.op rfl (OpE.buildSlice (zc := #[.string ⟨#[]⟩, .string ⟨#[]⟩, .string ⟨#[]⟩]) rfl hB rfl Tryz.underlying67 Tryz.sizeOf9 Tryz.zeroValue9 (by decide) (by decide) (by kernel_rfl) rfl rfl ?_)
        refine VO.op rfl (OpE.callT' (k + 20 * q + 1 + 6 * r + 1 + 1 + 1 + 1) rfl rfl hB rfl Tryz.call16 rfl ((some_T 1000 (by rfl) (by decide) (by decide) (by repeat (first | exact AllS.nil | refine AllS.cons (by first | decide | omega) ?_)))) (by omega) ?_)
        rintro _ ⟨r46, hr46, rfl⟩
        refine VO.mv rfl rfl rfl rfl ?_
        refine VO.op rfl (OpE.buildSlice (zc := #[.string ⟨#[]⟩, .string ⟨#[]⟩, .string ⟨#[]⟩]) rfl hB rfl Tryz.underlying67 Tryz.sizeOf9 Tryz.zeroValue9 (by decide) (by decide) (by kernel_rfl) rfl rfl ?_)
        refine VO.op rfl (OpE.callT' (k + 20 * q + 1 + 6 * r + 1 + 1 + 1 + 1 + 1) rfl rfl hB rfl Tryz.call16 rfl ((some_T 1000 (by rfl) (by decide) (by decide) (by repeat (first | exact AllS.nil | refine AllS.cons (by first | decide | omega) ?_)))) (by omega) ?_)
        rintro _ ⟨r49, hr49, rfl⟩
        refine VO.val rfl rfl (OpV.build (pls := #[(0, 1), (1, 1), (2, 1), (3, 1), (4, 1), (5, 1), (6, 1), (7, 1)]) rfl Tryz.zeroValue33 Tryz.underlying33 (fun w => by kernel_rfl) rfl rfl) ?_
        refine VO.op rfl (OpE.buildSlice (zc := #[.string ⟨#[]⟩, .string ⟨#[]⟩, .int .i64 0, .int .i64 0, .bool false, .string ⟨#[]⟩, .string ⟨#[]⟩, .string ⟨#[]⟩]) rfl hB rfl Tryz.underlying26 Tryz.sizeOf33 Tryz.zeroValue33 (by decide) (by decide) (by kernel_rfl) rfl rfl ?_)
        refine VO.op rfl (OpE.append1 (i := 0) rfl hB rfl Tryz.underlying26 (infoOf Tryz.t33 8 (by kernel_rfl) rfl rfl) rfl (by decide) (by decide) rfl rfl rfl rfl (rowL_snoc l (⟨bdK q, nm3.getD r ByteArray.empty, atv + r18, r38, r40, r43, r46, r49⟩ : LookS)) (by omega) (fun _ _ => trivial) ?_)
        intro u52
        refine VO.ma rfl rfl rfl rfl ?_
        refine VO.nil ?_
        refine VC.region ?_
        refine VO.val rfl rfl (OpV.add rfl rfl rfl (by unfold fits; omega)) ?_
        refine VO.mv rfl rfl rfl rfl ?_
        refine VO.nil ?_
        exact Exists.intro (⟨(u52, l ++ [⟨bdK q, nm3.getD r ByteArray.empty, atv + r18, r38, r40, r43, r46, r49⟩], r + 1), by show r + 1 ≤ 3; omega, by show (l ++ [_]).length ≤ 3 * q + (r + 1); simp; omega, LkG.snoc hok ⟨BdG.k (by omega), NmG.k r, ⟨⟨by show -1 ≤ atv + r18; omega, by show atv + r18 ≤ 345686400000; omega⟩, fun _ _ => by show atv + r18 ≤ 10 * (m : Int); omega⟩, by unfold SmG; exact hr43, by unfold SmG; exact hr46, by unfold SmG; exact hr49⟩⟩) (And.intro (Le.mk hB [0] ⟨rfl, rfl, rfl, rfl, rfl, rfl, rfl, rfl, rfl, trivial⟩ rfl (by dsimp only; first | rfl | (rw [List.length_append]; rfl)) (show k + 20 * q + 1 + 6 * r + 1 + 1 + 1 + 1 + 1 + 1 ≤ k + 20 * q + 1 + 6 * (r + 1) by omega)) (by first | omega | (show _ < _; omega) | (simp only []; omega)))
    · have aH2 := aH2b
      try simp only [qqT, qqF, qqN, qqM, qqL, qqE] at aH2
      refine VC.exit ?_
      refine VC.region ?_
      refine VO.val rfl rfl (OpV.add rfl rfl rfl (by unfold fits; omega)) ?_
      refine VO.mv rfl rfl rfl rfl ?_
      refine VO.nil ?_
      exact Exists.intro (⟨((u, atv + r18), l, q + 1), by show q + 1 ≤ m; omega, by show l.length ≤ 3 * (q + 1); omega, ⟨by show 0 ≤ atv + r18; omega, by show atv + r18 ≤ 10 * ((q + 1 : Nat) : Int); omega⟩, hok⟩) (And.intro (Le.mk hB [0] ⟨rfl, rfl, rfl, rfl, rfl, trivial⟩ rfl rfl (show k + 20 * q + 1 + 6 * r ≤ k + 20 * (q + 1) by omega)) (by first | omega | (show _ < _; omega) | (simp only []; omega)))
  · have aH1 := aH1b
    try simp only [qqT, qqF, qqN, qqM, qqL, qqE] at aH1
    refine VC.exit ?_
    refine VC.seq ?_
    refine VC.sr ?_
    refine VO.mv rfl rfl rfl rfl ?_
    refine VO.val rfl rfl (OpV.len_row (i := 0) rfl Tryz.underlying26 rfl rfl) ?_
    refine VO.val rfl rfl (OpV.gtr rfl rfl rfl) ?_
    refine VO.mv rfl rfl rfl rfl ?_
    refine VO.opG rfl rfl rfl rfl (fun aK4b => ?_) (fun aK4b => ?_)
    · replace aK4b : _ = true := aK4b
      have aK4 := aK4b
      try simp only [qqT, qqF, qqN, qqM, qqL, qqE] at aK4
      refine OpE.val (W := NoB) (OpV.move (.inl rfl) rfl) rfl ?_
      refine VO.opY rfl rfl rfl rfl aK4b ?_
      refine OpE.callT' (k + 20 * q) rfl rfl hB rfl Tryz.call17 rfl ((flip_T (by omega))) (by omega) ?_
      rintro _ ⟨r60, rfl⟩
      refine VO.val rfl rfl (OpV.pickT rfl rfl rfl rfl aK4b) ?_
      refine VO.nil ?_
      refine VC.cond rfl (fun aH5b => ?_) (fun aH5b => ?_)
      · have aH5 := aH5b
        try simp only [qqT, qqF, qqN, qqM, qqL, qqE] at aH5
        refine VC.seq ?_
        refine VC.asBox (i := 0) rfl (by omega) (fun gr cap hu hcap hmx => ?_)
        subst hu
        refine VC.region ?_
        refine VO.mv rfl rfl rfl rfl ?_
        refine VO.mv rfl rfl rfl rfl ?_
        refine VO.mv rfl rfl rfl rfl ?_
        refine VO.val rfl rfl (OpV.len_v rfl Tryz.underlying26 rfl) ?_
        refine VO.op rfl (OpE.callT' (k + 20 * q + 1) rfl rfl hB rfl Tryz.call103 rfl ((next_T (by omega))) (by omega) ?_)
        rintro _ ⟨r66, hr66, rfl⟩
        obtain ⟨i, rfl⟩ : ∃ i : Nat, r66 = i := ⟨r66.toNat, by omega⟩
        refine VO.val rfl rfl (OpV.indexAddr_q rfl Tryz.underlying26 Tryz.sizeOf33 rfl rfl rfl (by omega)) ?_
        refine VO.ma rfl rfl rfl rfl ?_
        refine VO.nil ?_
        refine VC.seq ?_
        have hm0 : 0 < m := by omega
        refine VC.region ?_
        refine VO.mv rfl rfl rfl rfl ?_
        refine VO.op rfl (OpE.callT' (k + 20 * q + 1 + 1) rfl rfl hB rfl Tryz.call103 rfl ((next_T (by omega))) (by omega) ?_)
        rintro _ ⟨r69, hr69, rfl⟩
        refine VO.nil ?_
        refine VC.block ?_
        refine VC.sr ?_
        refine VO.val rfl rfl (OpV.eql rfl rfl rfl) ?_
        refine VO.ma rfl rfl rfl rfl ?_
        refine VO.nil ?_
        refine VC.cond rfl (fun aH6b => ?_) (fun aH6b => ?_)
        · have aH6 := aH6b
          try simp only [qqT, qqF, qqN, qqM, qqL, qqE] at aH6
          refine VC.draw (fun j b => j ∈ [18, 21] ∧ b = gr) hB (by kernel_rfl) ?_
          refine VA.take (i := 0) rfl (by decide +kernel) (by decide +kernel) (by decide +kernel) rfl rfl (OpV.move (.inl rfl) rfl) ?_
          refine VA.take (i := 1) rfl (by decide +kernel) (by decide +kernel) (by decide +kernel) rfl rfl (OpV.move (.inl rfl) rfl) ?_
          refine VA.take (i := 2) rfl (by decide +kernel) (by decide +kernel) (by decide +kernel) rfl rfl (OpV.move (.inl rfl) rfl) ?_
          refine VA.take (i := 3) rfl (by decide +kernel) (by decide +kernel) (by decide +kernel) rfl rfl (OpV.move (.inl rfl) rfl) ?_
          refine VA.take (i := 4) rfl (by decide +kernel) (by decide +kernel) (by decide +kernel) rfl rfl (OpV.nilCheck rfl rfl) ?_
          refine VA.take (i := 5) rfl (by decide +kernel) (by decide +kernel) (by decide +kernel) rfl rfl (OpV.fieldAddrO 0 rfl Tryz.underlying33 rfl rfl Tryz.sizeOf9 rfl) ?_
          refine VA.take (i := 6) rfl (by decide +kernel) (by decide +kernel) (by decide +kernel) rfl rfl (OpV.load_own (i := 0) rfl hB Tryz.isAgg9 rfl rfl (rowL_at rfl (by omega) (by decide)) (Wi.notD (by decide +kernel))) ?_
          refine VA.take (i := 9) rfl (by decide +kernel) (by decide +kernel) (by decide +kernel) rfl rfl (OpV.move (.inl rfl) rfl) ?_
          refine VA.take (i := 10) rfl (by decide +kernel) (by decide +kernel) (by decide +kernel) rfl rfl (OpV.move (.inl rfl) rfl) ?_
          refine VA.take (i := 11) rfl (by decide +kernel) (by decide +kernel) (by decide +kernel) rfl rfl (OpV.nilCheck rfl rfl) ?_
          refine VA.take (i := 12) rfl (by decide +kernel) (by decide +kernel) (by decide +kernel) rfl rfl (OpV.fieldAddrO 1 rfl Tryz.underlying33 rfl rfl Tryz.sizeOf9 rfl) ?_
          refine VA.take (i := 13) rfl (by decide +kernel) (by decide +kernel) (by decide +kernel) rfl rfl (OpV.load_own (i := 0) rfl hB Tryz.isAgg9 rfl rfl (rowL_at rfl (by omega) (by decide)) (Wi.notD (by decide +kernel))) ?_
          refine VA.bind (fun F hF => ?_)
          have hS0 : ∀ (r110 : ByteArray) (hr110 : BdG m r110) (r117 : ByteArray) (hr117 : NmG r117), F 4 (lstB 22 [0, 1, 2, 3, 4, 5, 6, 7, 8, 9, 10, 11, 12, 13, 14, 15, 16, 17]) ⟨[(0, sp p), (104, sp p), (111, sp p), (102, (pL gr (0 + i * 8))), (103, (pL gr (0 + i * 8))), (108, avS (xL l i).board), (115, avS (xL l i).name), (5, .v (.slice (some ⟨gr, 0, none⟩) l.length cap)), (109, (iL 3 [avS (xL l i).board, avS ⟨#[]⟩, avS ⟨#[98, 49]⟩])), (110, avS r110), (116, (iL 3 [avS (xL l i).name, avS ⟨#[99, 49]⟩, avS ⟨#[65]⟩])), (117, avS r117), (119, (pL gr (0 + i * 8 + 0)))], [.box gr ⟨rowL l, 33, cap * 8⟩], k + 20 * q + 1 + 1 + 1 + 1 + 1⟩ := by
            intro r110 hr110 r117 hr117
            rw [hF]
            refine VA.all (rs := [18]) (by decide +kernel) (by decide) ?_
            refine ⟨⟨_, rfl, .inl rfl, ?_⟩, trivial⟩
            refine OpE.store1 (i := 0) rfl hB rfl Tryz.sizeOf9 rfl rfl rfl rfl rfl rfl (rowL_in rfl (by omega) (by decide)) (rowL_set (x := ({l.getD i default with board := r110} : LookS)) rfl (by omega) (by decide) rfl (fun i hi hn => lk_upd (by simp) (by simp) (by simp) (by simp) (by simp) (by simp) (by simp) (by simp) i hi hn)) (by first | exact ⟨rfl, rfl⟩ | exact .inl ⟨rfl, rfl⟩ | exact .inr ⟨rfl, rfl⟩ | exact ⟨rfl, trivial⟩ | exact .inl ⟨rfl, trivial⟩ | exact .inr ⟨rfl, trivial⟩ | exact ⟨by decide, rfl⟩) ?_
            refine VA.take (i := 19) rfl (by decide +kernel) (by decide +kernel) (by decide +kernel) rfl rfl (OpV.nilCheck rfl rfl) ?_
            refine VA.take (i := 20) rfl (by decide +kernel) (by decide +kernel) (by decide +kernel) rfl rfl (OpV.fieldAddrO 1 rfl Tryz.underlying33 rfl rfl Tryz.sizeOf9 rfl) ?_
            refine VA.all (rs := [21]) (by decide +kernel) (by decide) ?_
            refine ⟨⟨_, rfl, .inl rfl, ?_⟩, trivial⟩
            refine OpE.store1 (i := 0) rfl hB rfl Tryz.sizeOf9 rfl rfl rfl rfl rfl rfl (rowL_in rfl (by rw [List.length_set]; omega) (by decide)) (rowL_set (x := ({l.getD i default with board := r110, name := r117} : LookS)) rfl (by rw [List.length_set]; omega) (by decide) rfl (fun i hi hn => by rw [getSet_lk (by omega)]; exact lk_upd (by simp) (by simp) (by simp) (by simp) (by simp) (by simp) (by simp) (by simp) i hi hn)) (by first | exact ⟨rfl, rfl⟩ | exact .inl ⟨rfl, rfl⟩ | exact .inr ⟨rfl, rfl⟩ | exact ⟨rfl, trivial⟩ | exact .inl ⟨rfl, trivial⟩ | exact .inr ⟨rfl, trivial⟩ | exact ⟨by decide, rfl⟩) ?_
            refine VA.done (by decide +kernel) ?_
            refine VC.sr ?_
            refine VO.mv rfl rfl rfl rfl ?_
            refine VO.ma rfl rfl rfl rfl ?_
            refine VO.nil ?_
            refine VC.le _ (Le.boxRow (i := 0) (n := l.length) (sz := 8) rfl (by simp only [rowL_len, List.length_set]; rfl) hcap hmx) ?_
            refine VC.ret ?_
            exact Exists.intro _ (And.intro (RetV.one Tryz.results13 (ResV.tmp rfl)) (And.intro (by first | exact ⟨l, _, ⟨by omega, hok⟩, rfl, rfl⟩ | exact ⟨_, _, ⟨by simp only [List.length_set]; omega, lk_s1 hok i hr110 hr117⟩, rfl, by simp only [List.length_set]; rfl⟩ | exact ⟨_, _, ⟨by simp only [List.length_set]; omega, lk_s2 hok i hr132⟩, rfl, by simp only [List.length_set]; rfl⟩ | exact ⟨_, _, ⟨by simp only [List.length_set]; omega, lk_s3 hok i hr79 hr86 hr93⟩, rfl, by simp only [List.length_set]; rfl⟩) ((show k + 20 * q + 1 + 1 + 1 + 1 + 1 ≤ k + 200 by omega))))
          have hS1 : ∀ (r110 : ByteArray) (hr110 : BdG m r110), F 7 (lstB 22 [0, 1, 2, 3, 4, 5, 6, 7, 8, 9, 10, 11, 12, 13, 14]) ⟨[(0, sp p), (104, sp p), (111, sp p), (102, (pL gr (0 + i * 8))), (103, (pL gr (0 + i * 8))), (108, avS (xL l i).board), (115, avS (xL l i).name), (5, .v (.slice (some ⟨gr, 0, none⟩) l.length cap)), (109, (iL 3 [avS (xL l i).board, avS ⟨#[]⟩, avS ⟨#[98, 49]⟩])), (110, avS r110), (116, (iL 3 [avS (xL l i).name, avS ⟨#[99, 49]⟩, avS ⟨#[65]⟩]))], [.box gr ⟨rowL l, 33, cap * 8⟩], k + 20 * q + 1 + 1 + 1 + 1⟩ := by
            intro r110 hr110
            rw [hF]
            refine VA.all (rs := [15]) (by decide +kernel) (by decide) ?_
            refine ⟨⟨_, rfl, .inl rfl, ?_⟩, trivial⟩
            refine OpE.callT' (k + 20 * q + 1 + 1 + 1 + 1) rfl rfl hB rfl Tryz.call16 rfl (some_G NmG (by rfl) (by decide) (by decide) (AllG.cons (LkG.getD hok i).name (AllG.cons NmG.c1 (AllG.cons NmG.none AllG.nil)))) (by omega) ?_
            rintro _ ⟨r117, hr117, rfl⟩
            refine VA.take (i := 16) rfl (by decide +kernel) (by decide +kernel) (by decide +kernel) rfl rfl (OpV.nilCheck rfl rfl) ?_
            refine VA.take (i := 17) rfl (by decide +kernel) (by decide +kernel) (by decide +kernel) rfl rfl (OpV.fieldAddrO 0 rfl Tryz.underlying33 rfl rfl Tryz.sizeOf9 rfl) ?_
            have hh := hS0 r110 hr110 r117 hr117
            rw [hF] at hh
            exact VA.to hh (by decide +kernel) (Le.mk hB [0] ⟨rfl, rfl, rfl, rfl, rfl, rfl, rfl, rfl, rfl, rfl, rfl, rfl, rfl, trivial⟩ rfl rfl (Nat.le_refl _))
          have hS2 : ∀ (r110 : ByteArray) (hr110 : BdG m r110), F 8 (lstB 22 [0, 1, 2, 3, 4, 5, 6, 7, 8, 9, 10, 11, 12, 13]) ⟨[(0, sp p), (104, sp p), (111, sp p), (102, (pL gr (0 + i * 8))), (103, (pL gr (0 + i * 8))), (108, avS (xL l i).board), (115, avS (xL l i).name), (5, .v (.slice (some ⟨gr, 0, none⟩) l.length cap)), (109, (iL 3 [avS (xL l i).board, avS ⟨#[]⟩, avS ⟨#[98, 49]⟩])), (110, avS r110)], [.box gr ⟨rowL l, 33, cap * 8⟩], k + 20 * q + 1 + 1 + 1 + 1⟩ := by
            intro r110 hr110
            rw [hF]
            refine VA.all (rs := [14]) (by decide +kernel) (by decide) ?_
            refine ⟨⟨_, rfl, .inl rfl, ?_⟩, trivial⟩
            refine OpE.buildSlice (zc := #[.string ⟨#[]⟩, .string ⟨#[]⟩, .string ⟨#[]⟩]) rfl hB rfl Tryz.underlying67 Tryz.sizeOf9 Tryz.zeroValue9 (by decide) (by decide) (by kernel_rfl) rfl rfl ?_
            have hh := hS1 r110 hr110
            rw [hF] at hh
            exact VA.to hh (by decide +kernel) (Le.mk hB [0] ⟨rfl, rfl, rfl, rfl, rfl, rfl, rfl, rfl, rfl, rfl, rfl, trivial⟩ rfl rfl (Nat.le_refl _))
          have hS3 : F 8 (lstB 22 [0, 1, 2, 3, 4, 5, 6, 7, 9, 10, 11, 12, 13, 14]) ⟨[(0, sp p), (104, sp p), (111, sp p), (102, (pL gr (0 + i * 8))), (103, (pL gr (0 + i * 8))), (108, avS (xL l i).board), (115, avS (xL l i).name), (5, .v (.slice (some ⟨gr, 0, none⟩) l.length cap)), (109, (iL 3 [avS (xL l i).board, avS ⟨#[]⟩, avS ⟨#[98, 49]⟩])), (116, (iL 3 [avS (xL l i).name, avS ⟨#[99, 49]⟩, avS ⟨#[65]⟩]))], [.box gr ⟨rowL l, 33, cap * 8⟩], k + 20 * q + 1 + 1 + 1⟩ := by
            rw [hF]
            refine VA.all (rs := [8]) (by decide +kernel) (by decide) ?_
            refine ⟨⟨_, rfl, .inl rfl, ?_⟩, trivial⟩
            refine OpE.callT' (k + 20 * q + 1 + 1 + 1) rfl rfl hB rfl Tryz.call16 rfl (some_G (BdG m) (by rfl) (by decide) (by decide) (AllG.cons (LkG.getD hok i).board (AllG.cons (BdG.none m) (AllG.cons (BdG.b1 hm0) AllG.nil)))) (by omega) ?_
            rintro _ ⟨r110, hr110, rfl⟩
            have hh := hS1 r110 hr110
            rw [hF] at hh
            exact VA.to hh (by decide +kernel) (Le.mk hB [0] ⟨rfl, rfl, rfl, rfl, rfl, rfl, rfl, rfl, rfl, rfl, rfl, trivial⟩ rfl rfl (Nat.le_refl _))
          have hS4 : F 9 (lstB 22 [0, 1, 2, 3, 4, 5, 6, 7, 9, 10, 11, 12, 13]) ⟨[(0, sp p), (104, sp p), (111, sp p), (102, (pL gr (0 + i * 8))), (103, (pL gr (0 + i * 8))), (108, avS (xL l i).board), (115, avS (xL l i).name), (5, .v (.slice (some ⟨gr, 0, none⟩) l.length cap)), (109, (iL 3 [avS (xL l i).board, avS ⟨#[]⟩, avS ⟨#[98, 49]⟩]))], [.box gr ⟨rowL l, 33, cap * 8⟩], k + 20 * q + 1 + 1 + 1⟩ := by
            rw [hF]
            refine VA.all (rs := [8, 14]) (by decide +kernel) (by decide) ?_
            refine ⟨⟨_, rfl, .inl rfl, ?_⟩, ⟨_, rfl, .inl rfl, ?_⟩, trivial⟩
            ·
              refine OpE.callT' (k + 20 * q + 1 + 1 + 1) rfl rfl hB rfl Tryz.call16 rfl (some_G (BdG m) (by rfl) (by decide) (by decide) (AllG.cons (LkG.getD hok i).board (AllG.cons (BdG.none m) (AllG.cons (BdG.b1 hm0) AllG.nil)))) (by omega) ?_
              rintro _ ⟨r110, hr110, rfl⟩
              have hh := hS2 r110 hr110
              rw [hF] at hh
              exact VA.to hh (by decide +kernel) (Le.mk hB [0] ⟨rfl, rfl, rfl, rfl, rfl, rfl, rfl, rfl, rfl, rfl, trivial⟩ rfl rfl (Nat.le_refl _))
            ·
              refine OpE.buildSlice (zc := #[.string ⟨#[]⟩, .string ⟨#[]⟩, .string ⟨#[]⟩]) rfl hB rfl Tryz.underlying67 Tryz.sizeOf9 Tryz.zeroValue9 (by decide) (by decide) (by kernel_rfl) rfl rfl ?_
              have hh := hS3 
              rw [hF] at hh
              exact VA.to hh (by decide +kernel) (Le.mk hB [0] ⟨rfl, rfl, rfl, rfl, rfl, rfl, rfl, rfl, rfl, rfl, trivial⟩ rfl rfl (Nat.le_refl _))
          have hS5 : F 9 (lstB 22 [0, 1, 2, 3, 4, 5, 6, 9, 10, 11, 12, 13, 14]) ⟨[(0, sp p), (104, sp p), (111, sp p), (102, (pL gr (0 + i * 8))), (103, (pL gr (0 + i * 8))), (108, avS (xL l i).board), (115, avS (xL l i).name), (5, .v (.slice (some ⟨gr, 0, none⟩) l.length cap)), (116, (iL 3 [avS (xL l i).name, avS ⟨#[99, 49]⟩, avS ⟨#[65]⟩]))], [.box gr ⟨rowL l, 33, cap * 8⟩], k + 20 * q + 1 + 1 + 1⟩ := by
            rw [hF]
            refine VA.all (rs := [7]) (by decide +kernel) (by decide) ?_
            refine ⟨⟨_, rfl, .inl rfl, ?_⟩, trivial⟩
            refine OpE.buildSlice (zc := #[.string ⟨#[]⟩, .string ⟨#[]⟩, .string ⟨#[]⟩]) rfl hB rfl Tryz.underlying67 Tryz.sizeOf9 Tryz.zeroValue9 (by decide) (by decide) (by kernel_rfl) rfl rfl ?_
            have hh := hS3 
            rw [hF] at hh
            exact VA.to hh (by decide +kernel) (Le.mk hB [0] ⟨rfl, rfl, rfl, rfl, rfl, rfl, rfl, rfl, rfl, rfl, trivial⟩ rfl rfl (Nat.le_refl _))
          have hS6 : F 10 (lstB 22 [0, 1, 2, 3, 4, 5, 6, 9, 10, 11, 12, 13]) ⟨[(0, sp p), (104, sp p), (111, sp p), (102, (pL gr (0 + i * 8))), (103, (pL gr (0 + i * 8))), (108, avS (xL l i).board), (115, avS (xL l i).name), (5, .v (.slice (some ⟨gr, 0, none⟩) l.length cap))], [.box gr ⟨rowL l, 33, cap * 8⟩], k + 20 * q + 1 + 1 + 1⟩ := by
            rw [hF]
            refine VA.all (rs := [7, 14]) (by decide +kernel) (by decide) ?_
            refine ⟨⟨_, rfl, .inl rfl, ?_⟩, ⟨_, rfl, .inl rfl, ?_⟩, trivial⟩
            ·
              refine OpE.buildSlice (zc := #[.string ⟨#[]⟩, .string ⟨#[]⟩, .string ⟨#[]⟩]) rfl hB rfl Tryz.underlying67 Tryz.sizeOf9 Tryz.zeroValue9 (by decide) (by decide) (by kernel_rfl) rfl rfl ?_
              have hh := hS4 
              rw [hF] at hh
              exact VA.to hh (by decide +kernel) (Le.mk hB [0] ⟨rfl, rfl, rfl, rfl, rfl, rfl, rfl, rfl, rfl, trivial⟩ rfl rfl (Nat.le_refl _))
            ·
              refine OpE.buildSlice (zc := #[.string ⟨#[]⟩, .string ⟨#[]⟩, .string ⟨#[]⟩]) rfl hB rfl Tryz.underlying67 Tryz.sizeOf9 Tryz.zeroValue9 (by decide) (by decide) (by kernel_rfl) rfl rfl ?_
              have hh := hS5 
              rw [hF] at hh
              exact VA.to hh (by decide +kernel) (Le.mk hB [0] ⟨rfl, rfl, rfl, rfl, rfl, rfl, rfl, rfl, rfl, trivial⟩ rfl rfl (Nat.le_refl _))
          rw [hF]
          have hh := hS6 
          rw [hF] at hh
          exact VA.to hh (by decide +kernel) (Le.mk hB [0] ⟨rfl, rfl, rfl, rfl, rfl, rfl, rfl, rfl, trivial⟩ rfl rfl (Nat.le_refl _))
        · have aH6 := aH6b
          try simp only [qqT, qqF, qqN, qqM, qqL, qqE] at aH6
          refine VC.sr ?_
          refine VO.val rfl rfl (OpV.eql rfl rfl rfl) ?_
          refine VO.ma rfl rfl rfl rfl ?_
          refine VO.nil ?_
          refine VC.cond rfl (fun aH7b => ?_) (fun aH7b => ?_)
          · have aH7 := aH7b
            try simp only [qqT, qqF, qqN, qqM, qqL, qqE] at aH7
            refine VC.region ?_
            refine VO.mv rfl rfl rfl rfl ?_
            refine VO.mv rfl rfl rfl rfl ?_
            refine VO.mv rfl rfl rfl rfl ?_
            refine VO.mv rfl rfl rfl rfl ?_
            refine VO.val rfl rfl (OpV.nilCheck rfl rfl) ?_
            refine VO.val rfl rfl (OpV.fieldAddrO 2 rfl Tryz.underlying33 rfl rfl Tryz.sizeOf3 rfl) ?_
            refine VO.val rfl rfl (OpV.load_own (i := 0) rfl hB Tryz.isAgg3 rfl rfl (rowL_at rfl (by omega) (by decide)) (fun h => h)) ?_
            refine VO.op rfl (OpE.buildSlice (zc := #[.int .i64 0, .int .i64 0, .int .i64 0]) rfl hB rfl Tryz.underlying22 Tryz.sizeOf3 Tryz.zeroValue3 (by decide) (by decide) (by kernel_rfl) rfl rfl ?_)
            refine VO.op rfl (OpE.callT' (k + 20 * q + 1 + 1 + 1) rfl rfl hB rfl Tryz.call15 rfl (pick_J (AtG m) (by rfl) (by decide) (by decide) (AllJ.cons (LkG.getD hok i).at_ (AllJ.cons AtG.neg (AllJ.cons AtG.end_ AllJ.nil)))) (by omega) ?_)
            rintro _ ⟨r132, hr132, rfl⟩
            refine VO.mv rfl rfl rfl rfl ?_
            refine VO.op rfl (OpE.callT' (k + 20 * q + 1 + 1 + 1 + 1) rfl rfl hB rfl Tryz.call104 rfl (odd_L) (by omega) ?_)
            rintro _ ⟨r134, rfl⟩
            refine VO.val rfl rfl (OpV.nilCheck rfl rfl) ?_
            refine VO.val rfl rfl (OpV.fieldAddrO 2 rfl Tryz.underlying33 rfl rfl Tryz.sizeOf3 rfl) ?_
            refine VO.op rfl (OpE.store1 (i := 0) rfl hB rfl Tryz.sizeOf3 rfl rfl rfl rfl rfl rfl (rowL_in rfl (by omega) (by decide)) (rowL_set (x := ({l.getD i default with at_ := r132} : LookS)) rfl (by omega) (by decide) rfl (fun i hi hn => lk_upd (by simp) (by simp) (by simp) (by simp) (by simp) (by simp) (by simp) (by simp) i hi hn)) trivial ?_)
            refine VO.val rfl rfl (OpV.nilCheck rfl rfl) ?_
            refine VO.val rfl rfl (OpV.fieldAddrO 3 rfl Tryz.underlying33 rfl rfl Tryz.sizeOf3 rfl) ?_
            refine VO.op rfl (OpE.store1 (i := 0) rfl hB rfl Tryz.sizeOf3 rfl rfl rfl rfl rfl rfl (rowL_in rfl (by rw [List.length_set]; omega) (by decide)) (rowL_set (x := ({l.getD i default with at_ := r132, verdict := r134} : LookS)) rfl (by rw [List.length_set]; omega) (by decide) rfl (fun i hi hn => by rw [getSet_lk (by omega)]; exact lk_upd (by simp) (by simp) (by simp) (by simp) (by simp) (by simp) (by simp) (by simp) i hi hn)) trivial ?_)
            refine VO.nil ?_
            refine VC.sr ?_
            refine VO.mv rfl rfl rfl rfl ?_
            refine VO.ma rfl rfl rfl rfl ?_
            refine VO.nil ?_
            refine VC.le _ (Le.boxRow (i := 0) (n := l.length) (sz := 8) rfl (by simp only [rowL_len, List.length_set]; rfl) hcap hmx) ?_
            refine VC.ret ?_
            exact Exists.intro _ (And.intro (RetV.one Tryz.results13 (ResV.tmp rfl)) (And.intro (by first | exact ⟨l, _, ⟨by omega, hok⟩, rfl, rfl⟩ | exact ⟨_, _, ⟨by simp only [List.length_set]; omega, lk_s1 hok i hr110 hr117⟩, rfl, by simp only [List.length_set]; rfl⟩ | exact ⟨_, _, ⟨by simp only [List.length_set]; omega, lk_s2 hok i hr132⟩, rfl, by simp only [List.length_set]; rfl⟩ | exact ⟨_, _, ⟨by simp only [List.length_set]; omega, lk_s3 hok i hr79 hr86 hr93⟩, rfl, by simp only [List.length_set]; rfl⟩) ((show k + 20 * q + 1 + 1 + 1 + 1 + 2 ≤ k + 200 by omega))))
          · have aH7 := aH7b
            try simp only [qqT, qqF, qqN, qqM, qqL, qqE] at aH7
            refine VC.draw (fun j b => j ∈ [26, 29, 32] ∧ b = gr) hB (by kernel_rfl) ?_
            refine VA.take (i := 0) rfl (by decide +kernel) (by decide +kernel) (by decide +kernel) rfl rfl (OpV.move (.inl rfl) rfl) ?_
            refine VA.take (i := 1) rfl (by decide +kernel) (by decide +kernel) (by decide +kernel) rfl rfl (OpV.move (.inl rfl) rfl) ?_
            refine VA.take (i := 2) rfl (by decide +kernel) (by decide +kernel) (by decide +kernel) rfl rfl (OpV.move (.inl rfl) rfl) ?_
            refine VA.take (i := 3) rfl (by decide +kernel) (by decide +kernel) (by decide +kernel) rfl rfl (OpV.move (.inl rfl) rfl) ?_
            refine VA.take (i := 4) rfl (by decide +kernel) (by decide +kernel) (by decide +kernel) rfl rfl (OpV.move (.inl rfl) rfl) ?_
            refine VA.take (i := 5) rfl (by decide +kernel) (by decide +kernel) (by decide +kernel) rfl rfl (OpV.nilCheck rfl rfl) ?_
            refine VA.take (i := 6) rfl (by decide +kernel) (by decide +kernel) (by decide +kernel) rfl rfl (OpV.fieldAddrO 5 rfl Tryz.underlying33 rfl rfl Tryz.sizeOf9 rfl) ?_
            refine VA.take (i := 7) rfl (by decide +kernel) (by decide +kernel) (by decide +kernel) rfl rfl (OpV.load_own (i := 0) rfl hB Tryz.isAgg9 rfl rfl (rowL_at rfl (by omega) (by decide)) (Wi.notD (by decide +kernel))) ?_
            refine VA.take (i := 10) rfl (by decide +kernel) (by decide +kernel) (by decide +kernel) rfl rfl (OpV.move (.inl rfl) rfl) ?_
            refine VA.take (i := 11) rfl (by decide +kernel) (by decide +kernel) (by decide +kernel) rfl rfl (OpV.move (.inl rfl) rfl) ?_
            refine VA.take (i := 12) rfl (by decide +kernel) (by decide +kernel) (by decide +kernel) rfl rfl (OpV.nilCheck rfl rfl) ?_
            refine VA.take (i := 13) rfl (by decide +kernel) (by decide +kernel) (by decide +kernel) rfl rfl (OpV.fieldAddrO 6 rfl Tryz.underlying33 rfl rfl Tryz.sizeOf9 rfl) ?_
            refine VA.take (i := 14) rfl (by decide +kernel) (by decide +kernel) (by decide +kernel) rfl rfl (OpV.load_own (i := 0) rfl hB Tryz.isAgg9 rfl rfl (rowL_at rfl (by omega) (by decide)) (Wi.notD (by decide +kernel))) ?_
            refine VA.take (i := 17) rfl (by decide +kernel) (by decide +kernel) (by decide +kernel) rfl rfl (OpV.move (.inl rfl) rfl) ?_
            refine VA.take (i := 18) rfl (by decide +kernel) (by decide +kernel) (by decide +kernel) rfl rfl (OpV.move (.inl rfl) rfl) ?_
            refine VA.take (i := 19) rfl (by decide +kernel) (by decide +kernel) (by decide +kernel) rfl rfl (OpV.nilCheck rfl rfl) ?_
            refine VA.take (i := 20) rfl (by decide +kernel) (by decide +kernel) (by decide +kernel) rfl rfl (OpV.fieldAddrO 7 rfl Tryz.underlying33 rfl rfl Tryz.sizeOf9 rfl) ?_
            refine VA.take (i := 21) rfl (by decide +kernel) (by decide +kernel) (by decide +kernel) rfl rfl (OpV.load_own (i := 0) rfl hB Tryz.isAgg9 rfl rfl (rowL_at rfl (by omega) (by decide)) (Wi.notD (by decide +kernel))) ?_
            refine VA.bind (fun F hF => ?_)
            have hS0 : ∀ (r79 : ByteArray) (hr79 : r79.size ≤ 1000) (r86 : ByteArray) (hr86 : r86.size ≤ 1000) (r93 : ByteArray) (hr93 : r93.size ≤ 1000), F 7 (lstB 33 [0, 1, 2, 3, 4, 5, 6, 7, 8, 9, 10, 11, 12, 13, 14, 15, 16, 17, 18, 19, 20, 21, 22, 23, 24, 25]) ⟨[(0, sp p), (73, sp p), (80, sp p), (87, sp p), (70, (pL gr (0 + i * 8))), (71, (pL gr (0 + i * 8))), (72, (pL gr (0 + i * 8))), (77, avS (xL l i).machine), (84, avS (xL l i).nozzle), (91, avS (xL l i).reel), (5, .v (.slice (some ⟨gr, 0, none⟩) l.length cap)), (78, (iL 2 [avS (xL l i).machine, avS ⟨#[]⟩])), (79, avS r79), (85, (iL 2 [avS (xL l i).nozzle, avS ⟨#[65]⟩])), (86, avS r86), (92, (iL 2 [avS (xL l i).reel, avS ⟨#[]⟩])), (93, avS r93), (95, (pL gr (0 + i * 8 + 5)))], [.box gr ⟨rowL l, 33, cap * 8⟩], k + 20 * q + 1 + 1 + 1 + 1 + 1 + 1⟩ := by
              intro r79 hr79 r86 hr86 r93 hr93
              rw [hF]
              refine VA.all (rs := [26]) (by decide +kernel) (by decide) ?_
              refine ⟨⟨_, rfl, .inl rfl, ?_⟩, trivial⟩
              refine OpE.store1 (i := 0) rfl hB rfl Tryz.sizeOf9 rfl rfl rfl rfl rfl rfl (rowL_in rfl (by omega) (by decide)) (rowL_set (x := ({l.getD i default with machine := r79} : LookS)) rfl (by omega) (by decide) rfl (fun i hi hn => lk_upd (by simp) (by simp) (by simp) (by simp) (by simp) (by simp) (by simp) (by simp) i hi hn)) (by first | exact ⟨rfl, rfl⟩ | exact .inl ⟨rfl, rfl⟩ | exact .inr ⟨rfl, rfl⟩ | exact ⟨rfl, trivial⟩ | exact .inl ⟨rfl, trivial⟩ | exact .inr ⟨rfl, trivial⟩ | exact ⟨by decide, rfl⟩) ?_
              refine VA.take (i := 27) rfl (by decide +kernel) (by decide +kernel) (by decide +kernel) rfl rfl (OpV.nilCheck rfl rfl) ?_
              refine VA.take (i := 28) rfl (by decide +kernel) (by decide +kernel) (by decide +kernel) rfl rfl (OpV.fieldAddrO 6 rfl Tryz.underlying33 rfl rfl Tryz.sizeOf9 rfl) ?_
              refine VA.all (rs := [29]) (by decide +kernel) (by decide) ?_
              refine ⟨⟨_, rfl, .inl rfl, ?_⟩, trivial⟩
              refine OpE.store1 (i := 0) rfl hB rfl Tryz.sizeOf9 rfl rfl rfl rfl rfl rfl (rowL_in rfl (by rw [List.length_set]; omega) (by decide)) (rowL_set (x := ({l.getD i default with machine := r79, nozzle := r86} : LookS)) rfl (by rw [List.length_set]; omega) (by decide) rfl (fun i hi hn => by rw [getSet_lk (by omega)]; exact lk_upd (by simp) (by simp) (by simp) (by simp) (by simp) (by simp) (by simp) (by simp) i hi hn)) (by first | exact ⟨rfl, rfl⟩ | exact .inl ⟨rfl, rfl⟩ | exact .inr ⟨rfl, rfl⟩ | exact ⟨rfl, trivial⟩ | exact .inl ⟨rfl, trivial⟩ | exact .inr ⟨rfl, trivial⟩ | exact ⟨by decide, rfl⟩) ?_
              refine VA.take (i := 30) rfl (by decide +kernel) (by decide +kernel) (by decide +kernel) rfl rfl (OpV.nilCheck rfl rfl) ?_
              refine VA.take (i := 31) rfl (by decide +kernel) (by decide +kernel) (by decide +kernel) rfl rfl (OpV.fieldAddrO 7 rfl Tryz.underlying33 rfl rfl Tryz.sizeOf9 rfl) ?_
              refine VA.all (rs := [32]) (by decide +kernel) (by decide) ?_
              refine ⟨⟨_, rfl, .inl rfl, ?_⟩, trivial⟩
              refine OpE.store1 (i := 0) rfl hB rfl Tryz.sizeOf9 rfl rfl rfl rfl rfl rfl (rowL_in rfl (by simp only [List.length_set]; omega) (by decide)) (rowL_set (x := ({l.getD i default with machine := r79, nozzle := r86, reel := r93} : LookS)) rfl (by simp only [List.length_set]; omega) (by decide) rfl (fun i hi hn => by rw [getSet_lk (by simp only [List.length_set]; omega)]; exact lk_upd (by simp) (by simp) (by simp) (by simp) (by simp) (by simp) (by simp) (by simp) i hi hn)) (by first | exact ⟨rfl, rfl⟩ | exact .inl ⟨rfl, rfl⟩ | exact .inr ⟨rfl, rfl⟩ | exact ⟨rfl, trivial⟩ | exact .inl ⟨rfl, trivial⟩ | exact .inr ⟨rfl, trivial⟩ | exact ⟨by decide, rfl⟩) ?_
              refine VA.done (by decide +kernel) ?_
              refine VC.sr ?_
              refine VO.mv rfl rfl rfl rfl ?_
              refine VO.ma rfl rfl rfl rfl ?_
              refine VO.nil ?_
              refine VC.le _ (Le.boxRow (i := 0) (n := l.length) (sz := 8) rfl (by simp only [rowL_len, List.length_set]; rfl) hcap hmx) ?_
              refine VC.ret ?_
              exact Exists.intro _ (And.intro (RetV.one Tryz.results13 (ResV.tmp rfl)) (And.intro (by first | exact ⟨l, _, ⟨by omega, hok⟩, rfl, rfl⟩ | exact ⟨_, _, ⟨by simp only [List.length_set]; omega, lk_s1 hok i hr110 hr117⟩, rfl, by simp only [List.length_set]; rfl⟩ | exact ⟨_, _, ⟨by simp only [List.length_set]; omega, lk_s2 hok i hr132⟩, rfl, by simp only [List.length_set]; rfl⟩ | exact ⟨_, _, ⟨by simp only [List.length_set]; omega, lk_s3 hok i hr79 hr86 hr93⟩, rfl, by simp only [List.length_set]; rfl⟩) ((show k + 20 * q + 1 + 1 + 1 + 1 + 1 + 1 ≤ k + 200 by omega))))
            have hS1 : ∀ (r79 : ByteArray) (hr79 : r79.size ≤ 1000) (r86 : ByteArray) (hr86 : r86.size ≤ 1000), F 10 (lstB 33 [0, 1, 2, 3, 4, 5, 6, 7, 8, 9, 10, 11, 12, 13, 14, 15, 16, 17, 18, 19, 20, 21, 22]) ⟨[(0, sp p), (73, sp p), (80, sp p), (87, sp p), (70, (pL gr (0 + i * 8))), (71, (pL gr (0 + i * 8))), (72, (pL gr (0 + i * 8))), (77, avS (xL l i).machine), (84, avS (xL l i).nozzle), (91, avS (xL l i).reel), (5, .v (.slice (some ⟨gr, 0, none⟩) l.length cap)), (78, (iL 2 [avS (xL l i).machine, avS ⟨#[]⟩])), (79, avS r79), (85, (iL 2 [avS (xL l i).nozzle, avS ⟨#[65]⟩])), (86, avS r86), (92, (iL 2 [avS (xL l i).reel, avS ⟨#[]⟩]))], [.box gr ⟨rowL l, 33, cap * 8⟩], k + 20 * q + 1 + 1 + 1 + 1 + 1⟩ := by
              intro r79 hr79 r86 hr86
              rw [hF]
              refine VA.all (rs := [23]) (by decide +kernel) (by decide) ?_
              refine ⟨⟨_, rfl, .inl rfl, ?_⟩, trivial⟩
              refine OpE.callT' (k + 20 * q + 1 + 1 + 1 + 1 + 1) rfl rfl hB rfl Tryz.call16 rfl (some_T 1000 (by rfl) (by decide) (by decide) (AllS.cons (LkG.getD hok i).reel (AllS.cons (by decide) AllS.nil))) (by omega) ?_
              rintro _ ⟨r93, hr93, rfl⟩
              refine VA.take (i := 24) rfl (by decide +kernel) (by decide +kernel) (by decide +kernel) rfl rfl (OpV.nilCheck rfl rfl) ?_
              refine VA.take (i := 25) rfl (by decide +kernel) (by decide +kernel) (by decide +kernel) rfl rfl (OpV.fieldAddrO 5 rfl Tryz.underlying33 rfl rfl Tryz.sizeOf9 rfl) ?_
              have hh := hS0 r79 hr79 r86 hr86 r93 hr93
              rw [hF] at hh
              exact VA.to hh (by decide +kernel) (Le.mk hB [0] ⟨rfl, rfl, rfl, rfl, rfl, rfl, rfl, rfl, rfl, rfl, rfl, rfl, rfl, rfl, rfl, rfl, rfl, rfl, trivial⟩ rfl rfl (Nat.le_refl _))
            have hS2 : ∀ (r79 : ByteArray) (hr79 : r79.size ≤ 1000) (r86 : ByteArray) (hr86 : r86.size ≤ 1000), F 11 (lstB 33 [0, 1, 2, 3, 4, 5, 6, 7, 8, 9, 10, 11, 12, 13, 14, 15, 16, 17, 18, 19, 20, 21]) ⟨[(0, sp p), (73, sp p), (80, sp p), (87, sp p), (70, (pL gr (0 + i * 8))), (71, (pL gr (0 + i * 8))), (72, (pL gr (0 + i * 8))), (77, avS (xL l i).machine), (84, avS (xL l i).nozzle), (91, avS (xL l i).reel), (5, .v (.slice (some ⟨gr, 0, none⟩) l.length cap)), (78, (iL 2 [avS (xL l i).machine, avS ⟨#[]⟩])), (79, avS r79), (85, (iL 2 [avS (xL l i).nozzle, avS ⟨#[65]⟩])), (86, avS r86)], [.box gr ⟨rowL l, 33, cap * 8⟩], k + 20 * q + 1 + 1 + 1 + 1 + 1⟩ := by
              intro r79 hr79 r86 hr86
              rw [hF]
              refine VA.all (rs := [22]) (by decide +kernel) (by decide) ?_
              refine ⟨⟨_, rfl, .inl rfl, ?_⟩, trivial⟩
              refine OpE.buildSlice (zc := #[.string ⟨#[]⟩, .string ⟨#[]⟩]) rfl hB rfl Tryz.underlying67 Tryz.sizeOf9 Tryz.zeroValue9 (by decide) (by decide) (by kernel_rfl) rfl rfl ?_
              have hh := hS1 r79 hr79 r86 hr86
              rw [hF] at hh
              exact VA.to hh (by decide +kernel) (Le.mk hB [0] ⟨rfl, rfl, rfl, rfl, rfl, rfl, rfl, rfl, rfl, rfl, rfl, rfl, rfl, rfl, rfl, rfl, trivial⟩ rfl rfl (Nat.le_refl _))
            have hS3 : ∀ (r79 : ByteArray) (hr79 : r79.size ≤ 1000), F 11 (lstB 33 [0, 1, 2, 3, 4, 5, 6, 7, 8, 9, 10, 11, 12, 13, 14, 15, 17, 18, 19, 20, 21, 22]) ⟨[(0, sp p), (73, sp p), (80, sp p), (87, sp p), (70, (pL gr (0 + i * 8))), (71, (pL gr (0 + i * 8))), (72, (pL gr (0 + i * 8))), (77, avS (xL l i).machine), (84, avS (xL l i).nozzle), (91, avS (xL l i).reel), (5, .v (.slice (some ⟨gr, 0, none⟩) l.length cap)), (78, (iL 2 [avS (xL l i).machine, avS ⟨#[]⟩])), (79, avS r79), (85, (iL 2 [avS (xL l i).nozzle, avS ⟨#[65]⟩])), (92, (iL 2 [avS (xL l i).reel, avS ⟨#[]⟩]))], [.box gr ⟨rowL l, 33, cap * 8⟩], k + 20 * q + 1 + 1 + 1 + 1⟩ := by
              intro r79 hr79
              rw [hF]
              refine VA.all (rs := [16]) (by decide +kernel) (by decide) ?_
              refine ⟨⟨_, rfl, .inl rfl, ?_⟩, trivial⟩
              refine OpE.callT' (k + 20 * q + 1 + 1 + 1 + 1) rfl rfl hB rfl Tryz.call16 rfl (some_T 1000 (by rfl) (by decide) (by decide) (AllS.cons (LkG.getD hok i).nozzle (AllS.cons (by decide) AllS.nil))) (by omega) ?_
              rintro _ ⟨r86, hr86, rfl⟩
              have hh := hS1 r79 hr79 r86 hr86
              rw [hF] at hh
              exact VA.to hh (by decide +kernel) (Le.mk hB [0] ⟨rfl, rfl, rfl, rfl, rfl, rfl, rfl, rfl, rfl, rfl, rfl, rfl, rfl, rfl, rfl, rfl, trivial⟩ rfl rfl (Nat.le_refl _))
            have hS4 : ∀ (r79 : ByteArray) (hr79 : r79.size ≤ 1000), F 12 (lstB 33 [0, 1, 2, 3, 4, 5, 6, 7, 8, 9, 10, 11, 12, 13, 14, 15, 17, 18, 19, 20, 21]) ⟨[(0, sp p), (73, sp p), (80, sp p), (87, sp p), (70, (pL gr (0 + i * 8))), (71, (pL gr (0 + i * 8))), (72, (pL gr (0 + i * 8))), (77, avS (xL l i).machine), (84, avS (xL l i).nozzle), (91, avS (xL l i).reel), (5, .v (.slice (some ⟨gr, 0, none⟩) l.length cap)), (78, (iL 2 [avS (xL l i).machine, avS ⟨#[]⟩])), (79, avS r79), (85, (iL 2 [avS (xL l i).nozzle, avS ⟨#[65]⟩]))], [.box gr ⟨rowL l, 33, cap * 8⟩], k + 20 * q + 1 + 1 + 1 + 1⟩ := by
              intro r79 hr79
              rw [hF]
              refine VA.all (rs := [16, 22]) (by decide +kernel) (by decide) ?_
              refine ⟨⟨_, rfl, .inl rfl, ?_⟩, ⟨_, rfl, .inl rfl, ?_⟩, trivial⟩
              ·
                refine OpE.callT' (k + 20 * q + 1 + 1 + 1 + 1) rfl rfl hB rfl Tryz.call16 rfl (some_T 1000 (by rfl) (by decide) (by decide) (AllS.cons (LkG.getD hok i).nozzle (AllS.cons (by decide) AllS.nil))) (by omega) ?_
                rintro _ ⟨r86, hr86, rfl⟩
                have hh := hS2 r79 hr79 r86 hr86
                rw [hF] at hh
                exact VA.to hh (by decide +kernel) (Le.mk hB [0] ⟨rfl, rfl, rfl, rfl, rfl, rfl, rfl, rfl, rfl, rfl, rfl, rfl, rfl, rfl, rfl, trivial⟩ rfl rfl (Nat.le_refl _))
              ·
                refine OpE.buildSlice (zc := #[.string ⟨#[]⟩, .string ⟨#[]⟩]) rfl hB rfl Tryz.underlying67 Tryz.sizeOf9 Tryz.zeroValue9 (by decide) (by decide) (by kernel_rfl) rfl rfl ?_
                have hh := hS3 r79 hr79
                rw [hF] at hh
                exact VA.to hh (by decide +kernel) (Le.mk hB [0] ⟨rfl, rfl, rfl, rfl, rfl, rfl, rfl, rfl, rfl, rfl, rfl, rfl, rfl, rfl, rfl, trivial⟩ rfl rfl (Nat.le_refl _))
            have hS5 : ∀ (r79 : ByteArray) (hr79 : r79.size ≤ 1000), F 12 (lstB 33 [0, 1, 2, 3, 4, 5, 6, 7, 8, 9, 10, 11, 12, 13, 14, 17, 18, 19, 20, 21, 22]) ⟨[(0, sp p), (73, sp p), (80, sp p), (87, sp p), (70, (pL gr (0 + i * 8))), (71, (pL gr (0 + i * 8))), (72, (pL gr (0 + i * 8))), (77, avS (xL l i).machine), (84, avS (xL l i).nozzle), (91, avS (xL l i).reel), (5, .v (.slice (some ⟨gr, 0, none⟩) l.length cap)), (78, (iL 2 [avS (xL l i).machine, avS ⟨#[]⟩])), (79, avS r79), (92, (iL 2 [avS (xL l i).reel, avS ⟨#[]⟩]))], [.box gr ⟨rowL l, 33, cap * 8⟩], k + 20 * q + 1 + 1 + 1 + 1⟩ := by
              intro r79 hr79
              rw [hF]
              refine VA.all (rs := [15]) (by decide +kernel) (by decide) ?_
              refine ⟨⟨_, rfl, .inl rfl, ?_⟩, trivial⟩
              refine OpE.buildSlice (zc := #[.string ⟨#[]⟩, .string ⟨#[]⟩]) rfl hB rfl Tryz.underlying67 Tryz.sizeOf9 Tryz.zeroValue9 (by decide) (by decide) (by kernel_rfl) rfl rfl ?_
              have hh := hS3 r79 hr79
              rw [hF] at hh
              exact VA.to hh (by decide +kernel) (Le.mk hB [0] ⟨rfl, rfl, rfl, rfl, rfl, rfl, rfl, rfl, rfl, rfl, rfl, rfl, rfl, rfl, rfl, trivial⟩ rfl rfl (Nat.le_refl _))
            have hS6 : F 12 (lstB 33 [0, 1, 2, 3, 4, 5, 6, 7, 8, 10, 11, 12, 13, 14, 15, 17, 18, 19, 20, 21, 22]) ⟨[(0, sp p), (73, sp p), (80, sp p), (87, sp p), (70, (pL gr (0 + i * 8))), (71, (pL gr (0 + i * 8))), (72, (pL gr (0 + i * 8))), (77, avS (xL l i).machine), (84, avS (xL l i).nozzle), (91, avS (xL l i).reel), (5, .v (.slice (some ⟨gr, 0, none⟩) l.length cap)), (78, (iL 2 [avS (xL l i).machine, avS ⟨#[]⟩])), (85, (iL 2 [avS (xL l i).nozzle, avS ⟨#[65]⟩])), (92, (iL 2 [avS (xL l i).reel, avS ⟨#[]⟩]))], [.box gr ⟨rowL l, 33, cap * 8⟩], k + 20 * q + 1 + 1 + 1⟩ := by
              rw [hF]
              refine VA.all (rs := [9]) (by decide +kernel) (by decide) ?_
              refine ⟨⟨_, rfl, .inl rfl, ?_⟩, trivial⟩
              refine OpE.callT' (k + 20 * q + 1 + 1 + 1) rfl rfl hB rfl Tryz.call16 rfl (some_T 1000 (by rfl) (by decide) (by decide) (AllS.cons (LkG.getD hok i).machine (AllS.cons (by decide) AllS.nil))) (by omega) ?_
              rintro _ ⟨r79, hr79, rfl⟩
              have hh := hS3 r79 hr79
              rw [hF] at hh
              exact VA.to hh (by decide +kernel) (Le.mk hB [0] ⟨rfl, rfl, rfl, rfl, rfl, rfl, rfl, rfl, rfl, rfl, rfl, rfl, rfl, rfl, rfl, trivial⟩ rfl rfl (Nat.le_refl _))
            have hS7 : ∀ (r79 : ByteArray) (hr79 : r79.size ≤ 1000), F 13 (lstB 33 [0, 1, 2, 3, 4, 5, 6, 7, 8, 9, 10, 11, 12, 13, 14, 17, 18, 19, 20, 21]) ⟨[(0, sp p), (73, sp p), (80, sp p), (87, sp p), (70, (pL gr (0 + i * 8))), (71, (pL gr (0 + i * 8))), (72, (pL gr (0 + i * 8))), (77, avS (xL l i).machine), (84, avS (xL l i).nozzle), (91, avS (xL l i).reel), (5, .v (.slice (some ⟨gr, 0, none⟩) l.length cap)), (78, (iL 2 [avS (xL l i).machine, avS ⟨#[]⟩])), (79, avS r79)], [.box gr ⟨rowL l, 33, cap * 8⟩], k + 20 * q + 1 + 1 + 1 + 1⟩ := by
              intro r79 hr79
              rw [hF]
              refine VA.all (rs := [15, 22]) (by decide +kernel) (by decide) ?_
              refine ⟨⟨_, rfl, .inl rfl, ?_⟩, ⟨_, rfl, .inl rfl, ?_⟩, trivial⟩
              ·
                refine OpE.buildSlice (zc := #[.string ⟨#[]⟩, .string ⟨#[]⟩]) rfl hB rfl Tryz.underlying67 Tryz.sizeOf9 Tryz.zeroValue9 (by decide) (by decide) (by kernel_rfl) rfl rfl ?_
                have hh := hS4 r79 hr79
                rw [hF] at hh
                exact VA.to hh (by decide +kernel) (Le.mk hB [0] ⟨rfl, rfl, rfl, rfl, rfl, rfl, rfl, rfl, rfl, rfl, rfl, rfl, rfl, rfl, trivial⟩ rfl rfl (Nat.le_refl _))
              ·
                refine OpE.buildSlice (zc := #[.string ⟨#[]⟩, .string ⟨#[]⟩]) rfl hB rfl Tryz.underlying67 Tryz.sizeOf9 Tryz.zeroValue9 (by decide) (by decide) (by kernel_rfl) rfl rfl ?_
                have hh := hS5 r79 hr79
                rw [hF] at hh
                exact VA.to hh (by decide +kernel) (Le.mk hB [0] ⟨rfl, rfl, rfl, rfl, rfl, rfl, rfl, rfl, rfl, rfl, rfl, rfl, rfl, rfl, trivial⟩ rfl rfl (Nat.le_refl _))
            have hS8 : F 13 (lstB 33 [0, 1, 2, 3, 4, 5, 6, 7, 8, 10, 11, 12, 13, 14, 15, 17, 18, 19, 20, 21]) ⟨[(0, sp p), (73, sp p), (80, sp p), (87, sp p), (70, (pL gr (0 + i * 8))), (71, (pL gr (0 + i * 8))), (72, (pL gr (0 + i * 8))), (77, avS (xL l i).machine), (84, avS (xL l i).nozzle), (91, avS (xL l i).reel), (5, .v (.slice (some ⟨gr, 0, none⟩) l.length cap)), (78, (iL 2 [avS (xL l i).machine, avS ⟨#[]⟩])), (85, (iL 2 [avS (xL l i).nozzle, avS ⟨#[65]⟩]))], [.box gr ⟨rowL l, 33, cap * 8⟩], k + 20 * q + 1 + 1 + 1⟩ := by
              rw [hF]
              refine VA.all (rs := [9, 22]) (by decide +kernel) (by decide) ?_
              refine ⟨⟨_, rfl, .inl rfl, ?_⟩, ⟨_, rfl, .inl rfl, ?_⟩, trivial⟩
              ·
                refine OpE.callT' (k + 20 * q + 1 + 1 + 1) rfl rfl hB rfl Tryz.call16 rfl (some_T 1000 (by rfl) (by decide) (by decide) (AllS.cons (LkG.getD hok i).machine (AllS.cons (by decide) AllS.nil))) (by omega) ?_
                rintro _ ⟨r79, hr79, rfl⟩
                have hh := hS4 r79 hr79
                rw [hF] at hh
                exact VA.to hh (by decide +kernel) (Le.mk hB [0] ⟨rfl, rfl, rfl, rfl, rfl, rfl, rfl, rfl, rfl, rfl, rfl, rfl, rfl, rfl, trivial⟩ rfl rfl (Nat.le_refl _))
              ·
                refine OpE.buildSlice (zc := #[.string ⟨#[]⟩, .string ⟨#[]⟩]) rfl hB rfl Tryz.underlying67 Tryz.sizeOf9 Tryz.zeroValue9 (by decide) (by decide) (by kernel_rfl) rfl rfl ?_
                have hh := hS6 
                rw [hF] at hh
                exact VA.to hh (by decide +kernel) (Le.mk hB [0] ⟨rfl, rfl, rfl, rfl, rfl, rfl, rfl, rfl, rfl, rfl, rfl, rfl, rfl, rfl, trivial⟩ rfl rfl (Nat.le_refl _))
            have hS9 : F 13 (lstB 33 [0, 1, 2, 3, 4, 5, 6, 7, 8, 10, 11, 12, 13, 14, 17, 18, 19, 20, 21, 22]) ⟨[(0, sp p), (73, sp p), (80, sp p), (87, sp p), (70, (pL gr (0 + i * 8))), (71, (pL gr (0 + i * 8))), (72, (pL gr (0 + i * 8))), (77, avS (xL l i).machine), (84, avS (xL l i).nozzle), (91, avS (xL l i).reel), (5, .v (.slice (some ⟨gr, 0, none⟩) l.length cap)), (78, (iL 2 [avS (xL l i).machine, avS ⟨#[]⟩])), (92, (iL 2 [avS (xL l i).reel, avS ⟨#[]⟩]))], [.box gr ⟨rowL l, 33, cap * 8⟩], k + 20 * q + 1 + 1 + 1⟩ := by
              rw [hF]
              refine VA.all (rs := [9, 15]) (by decide +kernel) (by decide) ?_
              refine ⟨⟨_, rfl, .inl rfl, ?_⟩, ⟨_, rfl, .inl rfl, ?_⟩, trivial⟩
              ·
                refine OpE.callT' (k + 20 * q + 1 + 1 + 1) rfl rfl hB rfl Tryz.call16 rfl (some_T 1000 (by rfl) (by decide) (by decide) (AllS.cons (LkG.getD hok i).machine (AllS.cons (by decide) AllS.nil))) (by omega) ?_
                rintro _ ⟨r79, hr79, rfl⟩
                have hh := hS5 r79 hr79
                rw [hF] at hh
                exact VA.to hh (by decide +kernel) (Le.mk hB [0] ⟨rfl, rfl, rfl, rfl, rfl, rfl, rfl, rfl, rfl, rfl, rfl, rfl, rfl, rfl, trivial⟩ rfl rfl (Nat.le_refl _))
              ·
                refine OpE.buildSlice (zc := #[.string ⟨#[]⟩, .string ⟨#[]⟩]) rfl hB rfl Tryz.underlying67 Tryz.sizeOf9 Tryz.zeroValue9 (by decide) (by decide) (by kernel_rfl) rfl rfl ?_
                have hh := hS6 
                rw [hF] at hh
                exact VA.to hh (by decide +kernel) (Le.mk hB [0] ⟨rfl, rfl, rfl, rfl, rfl, rfl, rfl, rfl, rfl, rfl, rfl, rfl, rfl, rfl, trivial⟩ rfl rfl (Nat.le_refl _))
            have hS10 : F 13 (lstB 33 [0, 1, 2, 3, 4, 5, 6, 7, 10, 11, 12, 13, 14, 15, 17, 18, 19, 20, 21, 22]) ⟨[(0, sp p), (73, sp p), (80, sp p), (87, sp p), (70, (pL gr (0 + i * 8))), (71, (pL gr (0 + i * 8))), (72, (pL gr (0 + i * 8))), (77, avS (xL l i).machine), (84, avS (xL l i).nozzle), (91, avS (xL l i).reel), (5, .v (.slice (some ⟨gr, 0, none⟩) l.length cap)), (85, (iL 2 [avS (xL l i).nozzle, avS ⟨#[65]⟩])), (92, (iL 2 [avS (xL l i).reel, avS ⟨#[]⟩]))], [.box gr ⟨rowL l, 33, cap * 8⟩], k + 20 * q + 1 + 1 + 1⟩ := by
              rw [hF]
              refine VA.all (rs := [8]) (by decide +kernel) (by decide) ?_
              refine ⟨⟨_, rfl, .inl rfl, ?_⟩, trivial⟩
              refine OpE.buildSlice (zc := #[.string ⟨#[]⟩, .string ⟨#[]⟩]) rfl hB rfl Tryz.underlying67 Tryz.sizeOf9 Tryz.zeroValue9 (by decide) (by decide) (by kernel_rfl) rfl rfl ?_
              have hh := hS6 
              rw [hF] at hh
              exact VA.to hh (by decide +kernel) (Le.mk hB [0] ⟨rfl, rfl, rfl, rfl, rfl, rfl, rfl, rfl, rfl, rfl, rfl, rfl, rfl, rfl, trivial⟩ rfl rfl (Nat.le_refl _))
            have hS11 : F 14 (lstB 33 [0, 1, 2, 3, 4, 5, 6, 7, 8, 10, 11, 12, 13, 14, 17, 18, 19, 20, 21]) ⟨[(0, sp p), (73, sp p), (80, sp p), (87, sp p), (70, (pL gr (0 + i * 8))), (71, (pL gr (0 + i * 8))), (72, (pL gr (0 + i * 8))), (77, avS (xL l i).machine), (84, avS (xL l i).nozzle), (91, avS (xL l i).reel), (5, .v (.slice (some ⟨gr, 0, none⟩) l.length cap)), (78, (iL 2 [avS (xL l i).machine, avS ⟨#[]⟩]))], [.box gr ⟨rowL l, 33, cap * 8⟩], k + 20 * q + 1 + 1 + 1⟩ := by
              rw [hF]
              refine VA.all (rs := [9, 15, 22]) (by decide +kernel) (by decide) ?_
              refine ⟨⟨_, rfl, .inl rfl, ?_⟩, ⟨_, rfl, .inl rfl, ?_⟩, ⟨_, rfl, .inl rfl, ?_⟩, trivial⟩
              ·
                refine OpE.callT' (k + 20 * q + 1 + 1 + 1) rfl rfl hB rfl Tryz.call16 rfl (some_T 1000 (by rfl) (by decide) (by decide) (AllS.cons (LkG.getD hok i).machine (AllS.cons (by decide) AllS.nil))) (by omega) ?_
                rintro _ ⟨r79, hr79, rfl⟩
                have hh := hS7 r79 hr79
                rw [hF] at hh
                exact VA.to hh (by decide +kernel) (Le.mk hB [0] ⟨rfl, rfl, rfl, rfl, rfl, rfl, rfl, rfl, rfl, rfl, rfl, rfl, rfl, trivial⟩ rfl rfl (Nat.le_refl _))
              ·
                refine OpE.buildSlice (zc := #[.string ⟨#[]⟩, .string ⟨#[]⟩]) rfl hB rfl Tryz.underlying67 Tryz.sizeOf9 Tryz.zeroValue9 (by decide) (by decide) (by kernel_rfl) rfl rfl ?_
                have hh := hS8 
                rw [hF] at hh
                exact VA.to hh (by decide +kernel) (Le.mk hB [0] ⟨rfl, rfl, rfl, rfl, rfl, rfl, rfl, rfl, rfl, rfl, rfl, rfl, rfl, trivial⟩ rfl rfl (Nat.le_refl _))
              ·
                refine OpE.buildSlice (zc := #[.string ⟨#[]⟩, .string ⟨#[]⟩]) rfl hB rfl Tryz.underlying67 Tryz.sizeOf9 Tryz.zeroValue9 (by decide) (by decide) (by kernel_rfl) rfl rfl ?_
                have hh := hS9 
                rw [hF] at hh
                exact VA.to hh (by decide +kernel) (Le.mk hB [0] ⟨rfl, rfl, rfl, rfl, rfl, rfl, rfl, rfl, rfl, rfl, rfl, rfl, rfl, trivial⟩ rfl rfl (Nat.le_refl _))
            have hS12 : F 14 (lstB 33 [0, 1, 2, 3, 4, 5, 6, 7, 10, 11, 12, 13, 14, 15, 17, 18, 19, 20, 21]) ⟨[(0, sp p), (73, sp p), (80, sp p), (87, sp p), (70, (pL gr (0 + i * 8))), (71, (pL gr (0 + i * 8))), (72, (pL gr (0 + i * 8))), (77, avS (xL l i).machine), (84, avS (xL l i).nozzle), (91, avS (xL l i).reel), (5, .v (.slice (some ⟨gr, 0, none⟩) l.length cap)), (85, (iL 2 [avS (xL l i).nozzle, avS ⟨#[65]⟩]))], [.box gr ⟨rowL l, 33, cap * 8⟩], k + 20 * q + 1 + 1 + 1⟩ := by
              rw [hF]
              refine VA.all (rs := [8, 22]) (by decide +kernel) (by decide) ?_
              refine ⟨⟨_, rfl, .inl rfl, ?_⟩, ⟨_, rfl, .inl rfl, ?_⟩, trivial⟩
              ·
                refine OpE.buildSlice (zc := #[.string ⟨#[]⟩, .string ⟨#[]⟩]) rfl hB rfl Tryz.underlying67 Tryz.sizeOf9 Tryz.zeroValue9 (by decide) (by decide) (by kernel_rfl) rfl rfl ?_
                have hh := hS8 
                rw [hF] at hh
                exact VA.to hh (by decide +kernel) (Le.mk hB [0] ⟨rfl, rfl, rfl, rfl, rfl, rfl, rfl, rfl, rfl, rfl, rfl, rfl, rfl, trivial⟩ rfl rfl (Nat.le_refl _))
              ·
                refine OpE.buildSlice (zc := #[.string ⟨#[]⟩, .string ⟨#[]⟩]) rfl hB rfl Tryz.underlying67 Tryz.sizeOf9 Tryz.zeroValue9 (by decide) (by decide) (by kernel_rfl) rfl rfl ?_
                have hh := hS10 
                rw [hF] at hh
                exact VA.to hh (by decide +kernel) (Le.mk hB [0] ⟨rfl, rfl, rfl, rfl, rfl, rfl, rfl, rfl, rfl, rfl, rfl, rfl, rfl, trivial⟩ rfl rfl (Nat.le_refl _))
            have hS13 : F 14 (lstB 33 [0, 1, 2, 3, 4, 5, 6, 7, 10, 11, 12, 13, 14, 17, 18, 19, 20, 21, 22]) ⟨[(0, sp p), (73, sp p), (80, sp p), (87, sp p), (70, (pL gr (0 + i * 8))), (71, (pL gr (0 + i * 8))), (72, (pL gr (0 + i * 8))), (77, avS (xL l i).machine), (84, avS (xL l i).nozzle), (91, avS (xL l i).reel), (5, .v (.slice (some ⟨gr, 0, none⟩) l.length cap)), (92, (iL 2 [avS (xL l i).reel, avS ⟨#[]⟩]))], [.box gr ⟨rowL l, 33, cap * 8⟩], k + 20 * q + 1 + 1 + 1⟩ := by
              rw [hF]
              refine VA.all (rs := [8, 15]) (by decide +kernel) (by decide) ?_
              refine ⟨⟨_, rfl, .inl rfl, ?_⟩, ⟨_, rfl, .inl rfl, ?_⟩, trivial⟩
              ·
                refine OpE.buildSlice (zc := #[.string ⟨#[]⟩, .string ⟨#[]⟩]) rfl hB rfl Tryz.underlying67 Tryz.sizeOf9 Tryz.zeroValue9 (by decide) (by decide) (by kernel_rfl) rfl rfl ?_
                have hh := hS9 
                rw [hF] at hh
                exact VA.to hh (by decide +kernel) (Le.mk hB [0] ⟨rfl, rfl, rfl, rfl, rfl, rfl, rfl, rfl, rfl, rfl, rfl, rfl, rfl, trivial⟩ rfl rfl (Nat.le_refl _))
              ·
                refine OpE.buildSlice (zc := #[.string ⟨#[]⟩, .string ⟨#[]⟩]) rfl hB rfl Tryz.underlying67 Tryz.sizeOf9 Tryz.zeroValue9 (by decide) (by decide) (by kernel_rfl) rfl rfl ?_
                have hh := hS10 
                rw [hF] at hh
                exact VA.to hh (by decide +kernel) (Le.mk hB [0] ⟨rfl, rfl, rfl, rfl, rfl, rfl, rfl, rfl, rfl, rfl, rfl, rfl, rfl, trivial⟩ rfl rfl (Nat.le_refl _))
            have hS14 : F 15 (lstB 33 [0, 1, 2, 3, 4, 5, 6, 7, 10, 11, 12, 13, 14, 17, 18, 19, 20, 21]) ⟨[(0, sp p), (73, sp p), (80, sp p), (87, sp p), (70, (pL gr (0 + i * 8))), (71, (pL gr (0 + i * 8))), (72, (pL gr (0 + i * 8))), (77, avS (xL l i).machine), (84, avS (xL l i).nozzle), (91, avS (xL l i).reel), (5, .v (.slice (some ⟨gr, 0, none⟩) l.length cap))], [.box gr ⟨rowL l, 33, cap * 8⟩], k + 20 * q + 1 + 1 + 1⟩ := by
              rw [hF]
              refine VA.all (rs := [8, 15, 22]) (by decide +kernel) (by decide) ?_
              refine ⟨⟨_, rfl, .inl rfl, ?_⟩, ⟨_, rfl, .inl rfl, ?_⟩, ⟨_, rfl, .inl rfl, ?_⟩, trivial⟩
              ·
                refine OpE.buildSlice (zc := #[.string ⟨#[]⟩, .string ⟨#[]⟩]) rfl hB rfl Tryz.underlying67 Tryz.sizeOf9 Tryz.zeroValue9 (by decide) (by decide) (by kernel_rfl) rfl rfl ?_
                have hh := hS11 
                rw [hF] at hh
                exact VA.to hh (by decide +kernel) (Le.mk hB [0] ⟨rfl, rfl, rfl, rfl, rfl, rfl, rfl, rfl, rfl, rfl, rfl, rfl, trivial⟩ rfl rfl (Nat.le_refl _))
              ·
                refine OpE.buildSlice (zc := #[.string ⟨#[]⟩, .string ⟨#[]⟩]) rfl hB rfl Tryz.underlying67 Tryz.sizeOf9 Tryz.zeroValue9 (by decide) (by decide) (by kernel_rfl) rfl rfl ?_
                have hh := hS12 
                rw [hF] at hh
                exact VA.to hh (by decide +kernel) (Le.mk hB [0] ⟨rfl, rfl, rfl, rfl, rfl, rfl, rfl, rfl, rfl, rfl, rfl, rfl, trivial⟩ rfl rfl (Nat.le_refl _))
              ·
                refine OpE.buildSlice (zc := #[.string ⟨#[]⟩, .string ⟨#[]⟩]) rfl hB rfl Tryz.underlying67 Tryz.sizeOf9 Tryz.zeroValue9 (by decide) (by decide) (by kernel_rfl) rfl rfl ?_
                have hh := hS13 
                rw [hF] at hh
                exact VA.to hh (by decide +kernel) (Le.mk hB [0] ⟨rfl, rfl, rfl, rfl, rfl, rfl, rfl, rfl, rfl, rfl, rfl, rfl, trivial⟩ rfl rfl (Nat.le_refl _))
            rw [hF]
            have hh := hS14 
            rw [hF] at hh
            exact VA.to hh (by decide +kernel) (Le.mk hB [0] ⟨rfl, rfl, rfl, rfl, rfl, rfl, rfl, rfl, rfl, rfl, rfl, trivial⟩ rfl rfl (Nat.le_refl _))
      · have aH5 := aH5b
        try simp only [qqT, qqF, qqN, qqM, qqL, qqE] at aH5
        refine VC.skip ?_
        refine VC.sr ?_
        refine VO.mv rfl rfl rfl rfl ?_
        refine VO.ma rfl rfl rfl rfl ?_
        refine VO.nil ?_
        skip
        refine VC.ret ?_
        exact Exists.intro _ (And.intro (RetV.one Tryz.results13 (ResV.tmp rfl)) (And.intro (by first | exact ⟨l, _, ⟨by omega, hok⟩, rfl, rfl⟩ | exact ⟨_, _, ⟨by simp only [List.length_set]; omega, lk_s1 hok i hr110 hr117⟩, rfl, by simp only [List.length_set]; rfl⟩ | exact ⟨_, _, ⟨by simp only [List.length_set]; omega, lk_s2 hok i hr132⟩, rfl, by simp only [List.length_set]; rfl⟩ | exact ⟨_, _, ⟨by simp only [List.length_set]; omega, lk_s3 hok i hr79 hr86 hr93⟩, rfl, by simp only [List.length_set]; rfl⟩) ((show k + 20 * q + 1 ≤ k + 200 by omega))))
    · replace aK4b : _ = false := aK4b
      have aK4 := aK4b
      try simp only [qqT, qqF, qqN, qqM, qqL, qqE] at aK4
      refine VO.opX rfl rfl rfl rfl aK4b ?_
      refine VO.val rfl rfl (OpV.pickF rfl rfl rfl rfl aK4b) ?_
      refine VO.nil ?_
      refine VC.condF rfl rfl ?_
      refine VC.skip ?_
      refine VC.sr ?_
      refine VO.mv rfl rfl rfl rfl ?_
      refine VO.ma rfl rfl rfl rfl ?_
      refine VO.nil ?_
      skip
      refine VC.ret ?_
      exact Exists.intro _ (And.intro (RetV.one Tryz.results13 (ResV.tmp rfl)) (And.intro (by first | exact ⟨l, _, ⟨by omega, hok⟩, rfl, rfl⟩ | exact ⟨_, _, ⟨by simp only [List.length_set]; omega, lk_s1 hok i hr110 hr117⟩, rfl, by simp only [List.length_set]; rfl⟩ | exact ⟨_, _, ⟨by simp only [List.length_set]; omega, lk_s2 hok i hr132⟩, rfl, by simp only [List.length_set]; rfl⟩ | exact ⟨_, _, ⟨by simp only [List.length_set]; omega, lk_s3 hok i hr79 hr86 hr93⟩, rfl, by simp only [List.length_set]; rfl⟩) ((show k + 20 * q ≤ k + 200 by omega))))
end Go.Proofs.YtaaokimiadfidaaGreatDoor
namespace Go.Proofs.YtaaokimiadfidaaGreatDoor
open Go.RowKit
set_option linter.unusedVariables false
set_option linter.unusedSimpArgs false
def eqPr (x y : PairS) : Bool := sEq x.name y.name && (sEq x.value y.value && true)
theorem eqPr_self (x : PairS) : eqPr x x = true := by simp [eqPr, sEq_refl]
set_option maxRecDepth 100000 in
theorem slices_Equal_pair {xs ys : List PairS} (hl : xs.length ≤ 1000000000) (hl' : ys.length ≤ 1000000000) :
  SpecN Tryz.prog 32 [avL xs, avL ys] (fun y => y = avB (eqLs eqPr xs ys)) := by
 refine SpecN.of_VCN Tryz.func32 rfl Tryz.ntmps32 (Nle rfl) fun w A hB => ?_
 have hnew : True := trivial
 refine VC.sr ?_
 refine VO.ma rfl rfl rfl rfl ?_
 refine VO.nil ?_
 refine VC.seq ?_
 refine VC.sr ?_
 refine VO.mv rfl rfl rfl rfl ?_
 refine VO.val rfl rfl (OpV.len_im rfl Tryz.underlying34 rfl) ?_
 refine VO.mv rfl rfl rfl rfl ?_
 refine VO.val rfl rfl (OpV.len_im rfl Tryz.underlying34 rfl) ?_
 refine VO.val rfl rfl (OpV.neq rfl rfl rfl) ?_
 refine VO.nil ?_
 refine VC.cond rfl (fun aH1b => ?_) (fun aH1b => ?_)
 ·have aH1 := aH1b
  try simp only [qqT, qqF, qqN, qqM, qqL, qqE] at aH1
  refine VC.sr ?_
  refine VO.ma rfl rfl rfl rfl ?_
  refine VO.nil ?_
  refine VC.ret ?_
  exact Exists.intro _ (And.intro (RetN.one Tryz.results32 (ResN.v rfl)) (by first | rw [eqLs_len (by omega)] | rw [eqLs_at (d := default) (q := q) (by omega) (not_true_false h2b)] | rw [eqLs_all (d := default) (by omega) (fun j hj => hn j (by omega))]))
 ·have aH1 := aH1b
  try simp only [qqT, qqF, qqN, qqM, qqL, qqE] at aH1
  refine VC.skip ?_
  refine VC.seq ?_
  refine VC.sr ?_
  refine VO.mv rfl rfl rfl rfl ?_
  refine VO.val rfl rfl (OpV.len_im rfl Tryz.underlying34 rfl) ?_
  refine VO.mv rfl rfl rfl rfl ?_
  refine VO.nil ?_
  refine VC.block ?_
  refine VC.loopK [(0, _), (1, _), (12, _)] ⟨rfl, rfl, rfl, trivial⟩ ({q : Nat // q ≤ xs.length ∧ ∀ j, j < q → eqPr (xs.getD j default) (ys.getD j default) = true}) (fun (iZ : {q : Nat // q ≤ xs.length ∧ ∀ j, j < q → eqPr (xs.getD j default) (ys.getD j default) = true}) => match iZ with | ⟨q, hq, hn⟩ => [(13, avI (q : Int))]) (fun (iZ : {q : Nat // q ≤ xs.length ∧ ∀ j, j < q → eqPr (xs.getD j default) (ys.getD j default) = true}) => match iZ with | ⟨q, hq, hn⟩ => []) (fun (iZ : {q : Nat // q ≤ xs.length ∧ ∀ j, j < q → eqPr (xs.getD j default) (ys.getD j default) = true}) => match iZ with | ⟨q, hq, hn⟩ => 0) (fun (iZ : {q : Nat // q ≤ xs.length ∧ ∀ j, j < q → eqPr (xs.getD j default) (ys.getD j default) = true}) => match iZ with | ⟨q, hq, hn⟩ => xs.length - q) ⟨0, Nat.zero_le _, fun j hj => absurd hj (Nat.not_lt_zero j)⟩ (Le.mk hB [] ⟨rfl, rfl, rfl, rfl, trivial⟩ rfl rfl (Nat.le_refl _)) ?_
  rintro ⟨q, hq, hn⟩
  show VC _ _ _ _ ⟨[(13, avI (q : Int))] ++ [(0, _), (1, _), (12, _)], [], 0⟩
  refine VC.sr ?_
  refine VO.val rfl rfl (OpV.lss rfl rfl rfl) ?_
  refine VO.nil ?_
  refine VC.seq ?_
  refine VC.cond rfl (fun aH2b => ?_) (fun aH2b => ?_)
  ·have aH2 := aH2b
   try simp only [qqT, qqF, qqN, qqM, qqL, qqE] at aH2
   refine VC.skip ?_
   refine VC.seq ?_
   refine VC.block ?_
   refine VC.sr ?_
   refine VO.mv rfl rfl rfl rfl ?_
   refine VO.ma rfl rfl rfl rfl ?_
   refine VO.nil ?_
   refine VC.seq ?_
   refine VC.draw (fun _ => NoB) hB (by kernel_rfl) ?_
   refine VA.take (i := 0) rfl (by kernel_rfl) (by kernel_rfl) (by kernel_rfl) rfl rfl (OpV.move (.inl rfl) rfl) ?_
   refine VA.take (i := 1) rfl (by kernel_rfl) (by kernel_rfl) (by kernel_rfl) rfl rfl (OpV.move (.inl rfl) rfl) ?_
   refine VA.take (i := 2) rfl (by kernel_rfl) (by kernel_rfl) (by kernel_rfl) rfl rfl (OpV.indexAddr_E rfl Tryz.underlying34 Tryz.sizeOf57 rfl rfl rfl (by omega)) ?_
   refine VA.take (i := 3) rfl (by kernel_rfl) (by kernel_rfl) (by kernel_rfl) rfl rfl (OpV.loadK_at rfl hB OutW.wi0 Tryz.isAgg57 Tryz.sizeOf57 rfl rfl) ?_
   refine VA.take (i := 4) rfl (by kernel_rfl) (by kernel_rfl) (by kernel_rfl) rfl rfl (OpV.move (.inl rfl) rfl) ?_
   refine VA.take (i := 5) rfl (by kernel_rfl) (by kernel_rfl) (by kernel_rfl) rfl rfl (OpV.move (.inl rfl) rfl) ?_
   refine VA.take (i := 6) rfl (by kernel_rfl) (by kernel_rfl) (by kernel_rfl) rfl rfl (OpV.indexAddr_E rfl Tryz.underlying34 Tryz.sizeOf57 rfl rfl rfl (by omega)) ?_
   refine VA.take (i := 7) rfl (by kernel_rfl) (by kernel_rfl) (by kernel_rfl) rfl rfl (OpV.loadK_at rfl hB OutW.wi0 Tryz.isAgg57 Tryz.sizeOf57 rfl rfl) ?_
   refine VA.take (i := 8) rfl (by kernel_rfl) (by kernel_rfl) (by kernel_rfl) rfl rfl (OpV.aneq rfl Tryz.underlying57 (by kernel_rfl) (by kernel_rfl) rfl rfl (EqFs.str Tryz.underlying9 Tryz.isAgg9 rfl (by decide) (EqFs.str Tryz.underlying9 Tryz.isAgg9 rfl (by decide) (EqFs.nil _)))) ?_
   refine VA.done (by kernel_rfl) ?_
   refine VC.cond rfl (fun h2b => ?_) (fun h2b => ?_)
   ·have h2 := h2b
    try simp only [qqT, qqF, qqN, qqM, qqL, qqE] at h2
    refine VC.sr ?_
    refine VO.ma rfl rfl rfl rfl ?_
    refine VO.nil ?_
    refine VC.ret ?_
    exact Exists.intro _ (And.intro (RetN.one Tryz.results32 (ResN.v rfl)) (by first | rw [eqLs_len (by omega)] | rw [eqLs_at (d := default) (q := q) (by omega) (not_true_false h2b)] | rw [eqLs_all (d := default) (by omega) (fun j hj => hn j (by omega))]))
   ·have h2 := h2b
    try simp only [qqT, qqF, qqN, qqM, qqL, qqE] at h2
    refine VC.skip ?_
    refine VC.region ?_
    refine VO.val rfl rfl (OpV.add rfl rfl rfl (by unfold fits; omega)) ?_
    refine VO.mv rfl rfl rfl rfl ?_
    refine VO.nil ?_
    exact Exists.intro (⟨q + 1, by omega, lt_succ_cases hn (not_false_true h2b)⟩) (And.intro (Le.mk hB [] ⟨rfl, rfl, rfl, rfl, trivial⟩ rfl rfl (Nat.le_refl _)) (by first | omega | (show _ < _; omega) | (simp only []; omega)))
  ·have aH2 := aH2b
   try simp only [qqT, qqF, qqN, qqM, qqL, qqE] at aH2
   refine VC.exit ?_
   refine VC.sr ?_
   refine VO.ma rfl rfl rfl rfl ?_
   refine VO.nil ?_
   refine VC.ret ?_
   exact Exists.intro _ (And.intro (RetN.one Tryz.results32 (ResN.v rfl)) (by first | rw [eqLs_len (by omega)] | rw [eqLs_at (d := default) (q := q) (by omega) (not_true_false h2b)] | rw [eqLs_all (d := default) (by omega) (fun j hj => hn j (by omega))]))
end Go.Proofs.YtaaokimiadfidaaGreatDoor
namespace Go.Proofs.YtaaokimiadfidaaGreatDoor
open Go.RowKit
set_option linter.unusedVariables false
set_option linter.unusedSimpArgs false

structure PaceS where
 product : ByteArray
 cycle : Int
 needs : List NeedS
instance : Inhabited PaceS := ⟨⟨ByteArray.empty, 0, []⟩⟩
instance : Sxc PaceS where
 k := 3
 pos := by decide
 cell m j := match j with
  | 0 => avS m.product
  | 1 => avI m.cycle
  | 2 => avL m.needs
  | _ => .any
structure OrdrS where
 key : ByteArray
 product : ByteArray
 count : Int
 ready : Int
 due : Int
instance : Inhabited OrdrS := ⟨⟨ByteArray.empty, ByteArray.empty, 0, 0, 0⟩⟩
instance : Sxc OrdrS where
 k := 5
 pos := by decide
 cell m j := match j with
  | 0 => avS m.key
  | 1 => avS m.product
  | 2 => avI m.count
  | 3 => avI m.ready
  | 4 => avI m.due
  | _ => .any
def paceE (p : List PaceS) (i : Nat) : Int :=
 if keyF (p.getD i default).product = false then 5
 else if (decide (0 < i) && sLe (p.getD i default).product (p.getD (i - 1) default).product) = true then 7
 else if outR (p.getD i default).cycle 1 10000000 = true then 1
 else needsF (p.getD i default).needs 1 1000
section
variable {p : List PaceS} {i : Nat}
end
section
variable {o : List OrdrS} {i : Nat}
end
def hasP (p : List PaceS) (k : ByteArray) : Bool := p.any fun x => sEq x.product k
structure PacesOk (p : List PaceS) : Prop where
 len : p.length ≤ 200
 all : ∀ j, j < p.length → paceE p j = 0
section
variable (p : List PaceS) (o : List OrdrS) (l : List Int) (start each : Int)
end
end Go.Proofs.YtaaokimiadfidaaGreatDoor
namespace Go.Proofs.YtaaokimiadfidaaGreatDoor
open Go.RowKit
set_option linter.unusedVariables false
set_option linter.unusedSimpArgs false
structure OrdrsB (o : List OrdrS) : Prop where
 len : o.length ≤ 201
 all : ∀ j, j < o.length → (1 ≤ (o.getD j default).count ∧ (o.getD j default).count ≤ 100000) ∧ (0 ≤ (o.getD j default).ready ∧ (o.getD j default).ready ≤ 345686399999) ∧ (0 ≤ (o.getD j default).due ∧ (o.getD j default).due ≤ 345686399999)
structure SchOk (p : List PaceS) (o : List OrdrS) (l : List Int) (start each : Int) : Prop where
 pok : PacesOk p
 ook : OrdrsB o
 has : ∀ j, j < o.length → hasP p (o.getD j default).product = true
 len : l.length = o.length
 ord : Ord o.length l
 st : 0 ≤ start ∧ start ≤ 345686399999
 ea : 0 ≤ each ∧ each ≤ 10000000
section
variable {p : List PaceS} {o : List OrdrS} {l : List Int} {start each : Int} (h : SchOk p o l start each)
include h
theorem SchOk.at_ {q : Nat} (hq : q < l.length) : 0 ≤ l.getD q 0 ∧ (l.getD q 0).toNat < o.length := by
 have := h.ord.lt (l[q]) (List.getElem_mem hq)
 rw [List.getD_eq_getElem?_getD, List.getElem?_eq_getElem hq]
 simp only [Option.getD_some]
 omega
end
theorem Ord.take {n : Nat} {l : List Int} {q : Nat} (h : Ord n (l.take q)) (hq : q < l.length) (h0 : 0 ≤ l.getD q 0) (h1 : (l.getD q 0).toNat < n) (h2 : l.getD q 0 ∉ l.take q) : Ord n (l.take (q + 1)) := by
 have := h.snoc h1 (by rwa [Int.toNat_of_nonneg h0])
 rw [Int.toNat_of_nonneg h0] at this
 rw [List.take_add_one, List.getElem?_eq_getElem hq]
 rwa [List.getD_eq_getElem?_getD, List.getElem?_eq_getElem hq] at this
end Go.Proofs.YtaaokimiadfidaaGreatDoor
namespace Go.Proofs.YtaaokimiadfidaaGreatDoor
open Go.RowKit
set_option linter.unusedVariables false
set_option linter.unusedSimpArgs false

def Inp (w : World) (a : Option Addr) (L : List Int) : Prop :=
 L.length ≤ 9223372036854775807 ∧ ∀ i, i < L.length → ∃ b o, a = some ⟨b, o, none⟩ ∧ w.cell? ⟨b, o + i, none⟩ = some (.int .i64 (L.getD i 0))

theorem Inp.ofRow {w : World} {a : Option Addr} {len cap : Nat} {zs : List Int}
  (h : (a = none ∧ len = 0 ∧ cap = 0 ∧ zs = []) ∨
   ∃ x, a = some x ∧ len ≤ cap ∧ cap ≤ maxLen ∧ zs.length = cap ∧ (∀ i, i < zs.length → w.cell? (x.add i) = some (.int .i64 (zs.getD i 0))) ∧ ∀ n ∈ zs, (Lit.int .i64 n).wf = true) :
  ∃ L : List Int, L.length = len ∧ Inp w a L := by
 rcases h with ⟨rfl, rfl, rfl, rfl⟩ | ⟨x, rfl, h1, h2, h3, h4, h5⟩
 ·exact ⟨[], rfl, by simp, by simp⟩
 ·unfold maxLen at h2
  refine ⟨zs.take len, by simp; omega, by simp; omega, fun i hi => ?_⟩
  have hi' : i < len ∧ i < zs.length := by simp at hi; omega
  obtain ⟨b, o, s⟩ := x
  have h0 := h4 0 (by omega)
  have hs : s = none := by
   cases s with
   | none => rfl
   | some s =>
    simp only [Addr.add, if_true, World.cell?] at h0
    split at h0 <;> simp at h0
  subst hs
  have hadd : (⟨b, o, none⟩ : Addr).add i = ⟨b, o + i, none⟩ := by unfold Addr.add; split <;> simp_all
  have := h4 i hi'.2
  rw [hadd] at this
  exact ⟨b, o, rfl, by rw [this]; simp [hi'.1, hi'.2]⟩

def lawQ (t : Nat) (x : Value) (e : Exit) (s : St') : Prop := e = .ret ∧ look s.sl t = some (.v x)
section
variable {P : Program} {w : World} {A : Nat → Prop} {nt t : Nat} {x : Value} {c : Code} {s : St'}
theorem VC.rebase (h : ∀ a w1, R (B0 w A nt) s a w1 → ∃ (B1 : Bs) (s1 : St'), B1.nt = nt ∧ B1.w0 = w1 ∧ (∀ b, B1.S b → w.heap.size ≤ b) ∧ R B1 s1 a w1 ∧ VC P B1 c (lawQ t x) s1) : VC P (B0 w A nt) c (lawQ t x) s := fun a w1 hr => by
 obtain ⟨B1, s1, h1, h2, h3, h4, h5⟩ := h a w1 hr
 refine Code.wp_mono (fun e a' w' ⟨s2, ⟨k1, k2⟩, k3⟩ => ?_) (h5 a w1 h4)
 refine ⟨⟨[(t, .v x)], [], 0⟩, ⟨k1, by simp [look_put]⟩, fun t' y hy => ?_, k3.size.trans h1, k3.defs, fun p hp => by simp at hp, List.Pairwise.nil, ?_, fun p hp => by simp at hp, trivial⟩
 ·rw [look_put] at hy
  split at hy
  ·rename_i e; subst e; cases hy; exact (k3.slots _ _ k2).flat ⟨_, rfl⟩
  ·cases hy
 ·have c1 := hr.chg
  have c2 := k3.chg
  rw [h2] at c2
  exact (c1.any.trans c2).mono fun b hb hs => (Nat.not_lt.2 (h3 b hs) hb).elim
theorem VC.stream {a0 : Option Addr} {cap0 g tot i : Nat} {L : List Int} {sl : List (Nat × AV)} (hi : s.hp[i]? = some (.box g ⟨[.v (.slice a0 L.length cap0), .v (.int .i64 0)], 25, tot⟩)) (htot : tot = 2) (hin : Inp w a0 L) (hsl : LeL s.sl sl) (hf : ∀ p ∈ sl, ∃ v, p.2 = .v v)
  (h : ∀ w1, w.heap.size ≤ g → (B1 w1 (fun b => b ≠ g) nt (fun b => b = g) (fun b => b ≤ g) (TT g L)).Ok → VC P (B1 w1 (fun b => b ≠ g) nt (fun b => b = g) (fun b => b ≤ g) (TT g L)) c (lawQ t x) ⟨sl, [], 0⟩) : VC P (B0 w A nt) c (lawQ t x) s :=
 VC.rebase fun a w1 hr => by
  have hm := List.mem_of_getElem? hi
  obtain ⟨cc, k1, k2, k3, k4⟩ := hr.blocks _ hm
  have hnew : ¬ g < w.heap.size := hr.isNew (fun b h => h) hm rfl
  have hge : w.heap.size ≤ g := by omega
  have hcc : cc = #[.slice a0 L.length cap0, .int .i64 0] := by
   obtain ⟨u0, p0, q0⟩ := k4 0 (by simp)
   obtain ⟨u1, p1, q1⟩ := k4 1 (by simp)
   have e0 := q0.eq_v
   have e1 := q1.eq_v
   have hsz : cc.size = 2 := k2.trans htot
   apply Array.ext (by simpa using hsz)
   intro i hi hi'
   simp at hi'
   match i, hi' with
   | 0, _ => have := Array.getElem?_eq_some_iff.1 p0; simp; rw [this.2, e0]
   | 1, _ => have := Array.getElem?_eq_some_iff.1 p1; simp; rw [this.2, e1]
  subst hcc
  have hT : TT g L w1 0 := ⟨0, Nat.le_refl _, a0, cap0, k1, hin.1, fun i hi => by
   obtain ⟨b, o, e1, e2⟩ := hin.2 i hi
   have hb := World.block_lt_of_cell? w _ e2
   exact ⟨b, o, e1, Nat.lt_of_lt_of_le hb hge, hr.chg.cell e2 fun h => h⟩⟩
  refine ⟨_, _, rfl, rfl, fun b hb => by rw [hb]; exact hge, ?_, h w1 hge (TT.ok hT)⟩
  refine ⟨fun t' y hy => ?_, hr.size, hr.defs, fun p hp => by simp at hp, List.Pairwise.nil, Chg.refl _ _, fun p hp => by simp at hp, hT⟩
  have hs := hr.slots t' y (LeL.look hsl t' y hy)
  have : ∃ v, y = .v v := by
   have key : ∀ (l : List (Nat × AV)), (∀ p ∈ l, ∃ v, p.2 = .v v) → look l t' = some y → ∃ v, y = .v v := by
    intro l
    induction l with
    | nil => intro _ h; cases h
    | cons p r ih =>
     intro hp hl
     obtain ⟨k, z⟩ := p
     rw [look_put] at hl
     split at hl
     ·cases hl; exact hp (k, y) (by simp)
     ·exact ih (fun q hq => hp q (by simp [hq])) hl
   exact key sl hf hy
  exact hs.flat this
theorem law_calls {F : FuncId} {fn : Func} {a0 : Option Addr} {cap0 : Nat} {L : List Int} {body : Code} (hf : P.funcs[F]? = some fn) (hb : fn.body = some body) (hn : fn.ntmps = nt) (h1 : 1 ≤ nt) (hres : fn.results = #[.tmp t])
  (h : VC P (B0 w (fun _ => True) nt) body (lawQ t (.bool true)) ⟨slots0 0 [.v (.slice a0 L.length cap0)], [], 0⟩) : Calls P F #[.slice a0 L.length cap0] w fun e w' => e = .returned (.bool true) ∧ Chg NoB w w' := by
 subst hn
 refine calls_of_wp hf hb (Code.wp_mono (fun e a w' hq => ?_) (h _ w (R.start (us := #[.slice a0 L.length cap0]) (k := 0) rfl ⟨rfl, fun j hj => by simp at hj; subst hj; exact .v _⟩ (fun _ h => h.elim) trivial (by show fn.ntmps = 1 + (fn.ntmps - 1); omega))))
 obtain ⟨s, ⟨rfl, hq⟩, hr⟩ := hq
 refine ⟨hr.defs, .bool true, ?_, rfl, hr.chg⟩
 have hv := (hr.slots t _ hq).eq_v
 simp [results_eq, hres, resRun, hv]
end
theorem Le.boolT {B : Bs} {s : St'} {t : Nat} {b : Bool} (ht : look s.sl t = some (avB b)) (hb : b = true) : Le B s ⟨(t, avB true) :: s.sl, s.hp, s.k⟩ := Le.recast ht fun w Z u h => by subst hb; exact h
end Go.Proofs.YtaaokimiadfidaaGreatDoor
namespace Go.Proofs.YtaaokimiadfidaaGreatDoor
open Go.RowKit
set_option linter.unusedVariables false
set_option linter.unusedSimpArgs false

abbrev ε : ByteArray := ⟨#[]⟩
section
variable {s : List ByteArray} {i : Nat}
end
section
variable {slots : Int} {p : List (List ByteArray)} {l : List ByteArray}
end
end Go.Proofs.YtaaokimiadfidaaGreatDoor
namespace Go.Proofs.YtaaokimiadfidaaGreatDoor
open Go.RowKit
set_option linter.unusedVariables false
set_option linter.unusedSimpArgs false

section
variable {s parts : List ByteArray} {later : List (List ByteArray)}
end
structure Fits (s parts : List ByteArray) : Prop where
 once : ∀ i j, i < j → j < s.length → s.getD i ByteArray.empty = s.getD j ByteArray.empty → s.getD j ByteArray.empty = ε
 room : parts.length ≤ s.length
 keys : ∀ x ∈ parts, x ≠ ε
 pnd : parts.Nodup
theorem Fits.set {s parts : List ByteArray} (h : Fits s parts) {x : ByteArray} (hs : x ∉ s) (i : Nat) : Fits (s.set i x) parts := by
 refine ⟨fun a b hab hb he => ?_, by rw [List.length_set]; exact h.room, h.keys, h.pnd⟩
 rw [List.length_set] at hb
 have hm : ∀ k, k < s.length → s.getD k ByteArray.empty ∈ s := fun k hk => by simp [hk]
 simp only [List.getD_eq_getElem?_getD, List.getElem?_set] at he ⊢
 have hal : a < s.length := by omega
 by_cases ea : i = a
 ·subst ea
  rw [if_pos rfl, if_pos (by omega), if_neg (by omega)] at he
  have : x ∈ s := by
   have := hm b hb
   rw [List.getD_eq_getElem?_getD] at this
   simp only [Option.getD_some] at he
   rw [he]; exact this
  exact absurd this hs
 ·by_cases eb : i = b
  ·subst eb
   rw [if_neg ea, if_pos rfl, if_pos (by omega)] at he
   have : x ∈ s := by
    have := hm a hal
    rw [List.getD_eq_getElem?_getD] at this
    simp only [Option.getD_some] at he
    rw [← he]; exact this
   exact absurd this hs
  ·rw [if_neg ea, if_neg eb] at he
   rw [if_neg eb]
   have := h.once a b hab hb (by rw [List.getD_eq_getElem?_getD, List.getD_eq_getElem?_getD]; exact he)
   rwa [List.getD_eq_getElem?_getD] at this
end Go.Proofs.YtaaokimiadfidaaGreatDoor
namespace Go.Proofs.YtaaokimiadfidaaGreatDoor
open Go.RowKit
set_option linter.unusedVariables false
set_option linter.unusedSimpArgs false

def SmS (s : List ByteArray) : Prop := s.length ≤ 1000000000 ∧ ∀ i, (s.getD i ByteArray.empty).size ≤ 1000000000
def SmSS (p : List (List ByteArray)) : Prop := p.length ≤ 1000000000 ∧ ∀ i, SmS (p.getD i default)
end Go.Proofs.YtaaokimiadfidaaGreatDoor
namespace Go.Proofs.YtaaokimiadfidaaGreatDoor
open Go.RowKit
set_option linter.unusedVariables false
set_option linter.unusedSimpArgs false

theorem SmS.nil : SmS [] := ⟨by simp, fun i => by simp [List.getD_eq_getElem?_getD]⟩
theorem SmSS.one {p : List ByteArray} (hp : SmS p) : SmSS [p] := ⟨by simp, fun i => by cases i with | zero => exact hp | succ i => exact SmS.nil⟩
end Go.Proofs.YtaaokimiadfidaaGreatDoor
namespace Go.Proofs.YtaaokimiadfidaaGreatDoor
open Go.RowKit
set_option linter.unusedVariables false
set_option linter.unusedSimpArgs false

section
variable {parts : List ByteArray} {later : List (List ByteArray)}
end
theorem keyF_size {x : ByteArray} (h : keyF x = true) : 1 ≤ x.size ∧ x.size ≤ 40 := by
 unfold keyF at h
 simp only [Bool.and_eq_true, decide_eq_true_eq] at h
 exact ⟨h.1.1.1, h.1.1.2⟩
theorem canE_key {l : List ByteArray} {i : Nat} (h : canE l i = 0) : keyF (l.getD i ByteArray.empty) = true := by
 cases hk : keyF (l.getD i ByteArray.empty) with
 | true => rfl
 | false => rw [canE_5 hk] at h; cases h
theorem canE_lt {l : List ByteArray} {i : Nat} (h : canE l i = 0) (h0 : 0 < i) : sLt (l.getD (i - 1) ByteArray.empty) (l.getD i ByteArray.empty) = true := by
 have hk := canE_key h
 cases hs : sLe (l.getD i ByteArray.empty) (l.getD (i - 1) ByteArray.empty) with
 | true => rw [canE_7 hk h0 hs] at h; cases h
 | false => exact sLt_of_not hs
theorem can_sort {l : List ByteArray} (h : ∀ j, j < l.length → canE l j = 0) : SortS l := by
 intro a b hab hb
 induction b with
 | zero => omega
 | succ b ih =>
  have h1 := canE_lt (h (b + 1) hb) (by omega)
  simp only [Nat.add_sub_cancel] at h1
  by_cases e : a = b
  ·subst e; exact h1
  ·exact sLt_trans (ih (by omega) (by omega)) h1
theorem sort_nodup {l : List ByteArray} (h : SortS l) : l.Nodup := by
 rw [List.Nodup, List.pairwise_iff_getElem]
 intro i j hi hj hij e
 have := h i j hij hj
 simp only [List.getD_eq_getElem?_getD, List.getElem?_eq_getElem hi, List.getElem?_eq_getElem hj, Option.getD_some, e] at this
 rw [sLt_irr] at this; cases this
theorem getD_mem {l : List ByteArray} {x : ByteArray} (h : x ∈ l) : ∃ j, j < l.length ∧ l.getD j ByteArray.empty = x := by
 obtain ⟨j, hj, rfl⟩ := List.mem_iff_getElem.1 h
 exact ⟨j, hj, by simp [hj]⟩
structure RightP (n : Nat) (l : List ByteArray) : Prop where
 len : l.length ≤ n
 can : ∀ j, j < l.length → canE l j = 0
theorem RightP.nil (n : Nat) : RightP n [] := ⟨by simp, fun j hj => by simp at hj⟩
section
variable {n : Nat} {l s : List ByteArray}
theorem RightP.keys (h : RightP n l) : ∀ x ∈ l, 1 ≤ x.size ∧ x.size ≤ 40 := fun x hx => by
 obtain ⟨j, hj, rfl⟩ := getD_mem hx
 exact keyF_size (canE_key (h.can j hj))
theorem RightP.fits (h : RightP s.length l) (ho : ∀ i j, i < j → j < s.length → s.getD i ByteArray.empty = s.getD j ByteArray.empty → s.getD j ByteArray.empty = ε) : Fits s l :=
 ⟨ho, h.len, fun x hx e => by have := h.keys x hx; rw [e] at this; exact absurd this.1 (by decide), sort_nodup (can_sort h.can)⟩
end
end Go.Proofs.YtaaokimiadfidaaGreatDoor
namespace Go.Proofs.YtaaokimiadfidaaGreatDoor
open Go.RowKit
set_option linter.unusedVariables false
set_option linter.unusedSimpArgs false
theorem SmSS.drop {p : List (List ByteArray)} (h : SmSS p) (k : Nat) : SmSS (p.drop k) := ⟨by have := h.1; simp; omega, fun i => by
 have : (p.drop k).getD i default = p.getD (k + i) default := by simp [List.getD_eq_getElem?_getD]
 rw [this]; exact h.2 _⟩
theorem SmSS.take {p : List (List ByteArray)} (h : SmSS p) (k : Nat) : SmSS (p.take k) := ⟨by have := h.1; simp; omega, fun i => by
 by_cases hi : i < k
 ·have : (p.take k).getD i default = p.getD i default := by simp [List.getD_eq_getElem?_getD, List.getElem?_take, hi]
  rw [this]; exact h.2 _
 ·have : (p.take k).getD i default = default := by simp [List.getD_eq_getElem?_getD, List.getElem?_take, hi]
  rw [this]; exact SmS.nil⟩
end Go.Proofs.YtaaokimiadfidaaGreatDoor
namespace Go.Proofs.YtaaokimiadfidaaGreatDoor
open Go.RowKit
set_option linter.unusedVariables false
set_option linter.unusedSimpArgs false

section
variable {P : Program} {α : Type} [Enc α]

end

theorem Own.set {w : World} {lo e g n cap : Nat} {xs : List Int} (h : Own w lo e (.slice (some ⟨g, 0, none⟩) n cap) xs) (i : Nat) (hi : i < xs.length) (x : Int) :
  Own (w.setCell ⟨g, i, none⟩ (.int .i64 x)) lo e (.slice (some ⟨g, 0, none⟩) n cap) (xs.set i x) := by
 obtain ⟨cs, h1, h2⟩ := h
 obtain ⟨h3, h4⟩ := h1
 rcases h4 with ⟨hv, _⟩ | ⟨g', cap', cur, hv, hb, hg, hc, hm, hs, ht⟩
 ·cases hv
 ·cases hv
  refine ⟨cs.set i (.int .i64 x), ⟨by simpa using h3, .inr ⟨g, cap, cur.setIfInBounds i (.int .i64 x), by simp, hb, ?_, by simpa using hc, hm, by simpa using hs, ?_⟩⟩, fun j hj => ?_⟩
  ·simp [World.setCell, Array.getElem?_modify, hg]
  ·rw [← ht]; simp [List.take_set]
  ·simp at hj
   have := h2 j hj
   simp only [Enc.Is, Enc.sz, Nat.mul_one, Nat.add_zero] at this ⊢ h3
   rw [List.getElem?_set, List.getElem_set]
   by_cases hij : i = j
   ·subst hij; simp; omega
   ·simp [hij, this]

end Go.Proofs.YtaaokimiadfidaaGreatDoor
namespace Go.Proofs.YtaaokimiadfidaaGreatDoor
open Go.RowKit
set_option linter.unusedVariables false
set_option linter.unusedSimpArgs false

structure Mat {α : Type} [Enc α] (w : World) (lo g n : Nat) (eo ei : TypeId) (V : Nat → Value) (R : Nat → List α) : Prop where
 low : lo ≤ g
 ex : ∃ cur, w.heap[g]? = some (.cells cur eo (0, 0)) ∧ cur.size = n ∧ ∀ k, k < n → cur[k]? = some (V k)
 own : ∀ k, k < n → Own w lo ei (V k) (R k)
 out : ∀ k, k < n → (V k).ownBlock ≠ some g
 sep : ∀ j k, j < n → k < n → j ≠ k → ∀ q, (V j).ownBlock = some q → (V k).ownBlock ≠ some q

namespace Mat
variable {α : Type} [Enc α] {w w' : World} {lo g n : Nat} {eo ei : TypeId} {V : Nat → Value} {R R' : Nat → List α}
theorem congr (h : Mat w lo g n eo ei V R) (e : ∀ k, k < n → R k = R' k) : Mat w lo g n eo ei V R' :=
 ⟨h.low, h.ex, fun k hk => e k hk ▸ h.own k hk, h.out, h.sep⟩
end Mat

end Go.Proofs.YtaaokimiadfidaaGreatDoor
namespace Go.Proofs.YtaaokimiadfidaaGreatDoor
open Go.RowKit
set_option linter.unusedVariables false
set_option linter.unusedSimpArgs false
def rdL : List LookS := [⟨⟨#[98]⟩, ⟨#[99]⟩, 0, 1, true, ⟨#[109]⟩, ⟨#[110]⟩, ⟨#[114]⟩⟩]
theorem one_sz {α : Type} [Inhabited α] {f : α → ByteArray} {x : α} (h : (f x).size ≤ 1000000) (h0 : (f default).size ≤ 1000000) (i : Nat) : (f ([x].getD i default)).size ≤ 1000000 := by
 match i with
 | 0 => exact h
 | i + 1 => exact h0
theorem rdL_sm : SmLk rdL := ⟨by decide, one_sz (f := LookS.board) (by decide) (by decide), one_sz (f := LookS.name) (by decide) (by decide), one_sz (f := LookS.machine) (by decide) (by decide), one_sz (f := LookS.nozzle) (by decide) (by decide), one_sz (f := LookS.reel) (by decide) (by decide)⟩
theorem rdL_ok : millE rdL = 0 := by decide +kernel
theorem rdL_n : (millN rdL).1 = 1000000 := by decide +kernel
end Go.Proofs.YtaaokimiadfidaaGreatDoor
namespace Go.Proofs.YtaaokimiadfidaaGreatDoor
open Go.RowKit
set_option linter.unusedVariables false
set_option linter.unusedSimpArgs false
set_option maxRecDepth 100000 in
theorem rl_errsL {xs : List Int} (hl : xs.length ≤ 1000000000) :
  SpecN Tryz.prog 23 [avInts xs] (fun y => y = avI (errsF xs)) := by
 refine SpecN.of_VCN Tryz.func23 rfl Tryz.ntmps23 (Nle rfl) fun w A hB => ?_
 have hnew : True := trivial
 refine VC.sr ?_
 refine VO.ma rfl rfl rfl rfl ?_
 refine VO.nil ?_
 refine VC.seq ?_
 refine VC.sr ?_
 refine VO.mv rfl rfl rfl rfl ?_
 refine VO.val rfl rfl (OpV.len_im rfl Tryz.underlying174 rfl) ?_
 refine VO.mv rfl rfl rfl rfl ?_
 refine VO.nil ?_
 refine VC.block ?_
 refine VC.loopK [(5, _), (6, _)] ⟨rfl, rfl, trivial⟩ ({q : Nat // q ≤ xs.length ∧ ∀ j, j < q → xs.getD j 0 = 0}) (fun (iZ : {q : Nat // q ≤ xs.length ∧ ∀ j, j < q → xs.getD j 0 = 0}) => match iZ with | ⟨q, hq, hn⟩ => [(7, avI (q : Int))]) (fun (iZ : {q : Nat // q ≤ xs.length ∧ ∀ j, j < q → xs.getD j 0 = 0}) => match iZ with | ⟨q, hq, hn⟩ => []) (fun (iZ : {q : Nat // q ≤ xs.length ∧ ∀ j, j < q → xs.getD j 0 = 0}) => match iZ with | ⟨q, hq, hn⟩ => 0) (fun (iZ : {q : Nat // q ≤ xs.length ∧ ∀ j, j < q → xs.getD j 0 = 0}) => match iZ with | ⟨q, hq, hn⟩ => xs.length - q) ⟨0, Nat.zero_le _, fun j hj => absurd hj (Nat.not_lt_zero j)⟩ (Le.mk hB [] ⟨rfl, rfl, rfl, trivial⟩ rfl rfl (Nat.le_refl _)) ?_
 rintro ⟨q, hq, hn⟩
 show VC _ _ _ _ ⟨[(7, avI (q : Int))] ++ [(5, _), (6, _)], [], 0⟩
 refine VC.sr ?_
 refine VO.val rfl rfl (OpV.lss rfl rfl rfl) ?_
 refine VO.nil ?_
 refine VC.seq ?_
 refine VC.cond rfl (fun aH1b => ?_) (fun aH1b => ?_)
 ·have aH1 := aH1b
  try simp only [qqT, qqF, qqN, qqM, qqL, qqE] at aH1
  refine VC.skip ?_
  refine VC.seq ?_
  refine VC.block ?_
  refine VC.sr ?_
  refine VO.val rfl rfl (OpV.indexAddr_1 rfl Tryz.underlying174 Tryz.sizeOf35 rfl rfl rfl (by omega)) ?_
  refine VO.val rfl rfl (OpV.load_at rfl hB OutW.no Tryz.isAgg35 rfl rfl) ?_
  refine VO.ma rfl rfl rfl rfl ?_
  refine VO.nil ?_
  refine VC.sr ?_
  refine VO.mv rfl rfl rfl rfl ?_
  refine VO.val rfl rfl (OpV.neq rfl rfl rfl) ?_
  refine VO.nil ?_
  refine VC.cond rfl (fun h1b => ?_) (fun h1b => ?_)
  ·have h1 := h1b
   try simp only [qqT, qqF, qqN, qqM, qqL, qqE] at h1
   refine VC.sr ?_
   refine VO.mv rfl rfl rfl rfl ?_
   refine VO.ma rfl rfl rfl rfl ?_
   refine VO.nil ?_
   refine VC.ret ?_
   exact Exists.intro _ (And.intro (RetN.one Tryz.results23 (ResN.v rfl)) (by rw [errsF_at (q := q) (by omega) hn h1]))
  ·have h1 := h1b
   try simp only [qqT, qqF, qqN, qqM, qqL, qqE] at h1
   refine VC.skip ?_
   refine VC.region ?_
   refine VO.val rfl rfl (OpV.add rfl rfl rfl (by unfold fits; omega)) ?_
   refine VO.mv rfl rfl rfl rfl ?_
   refine VO.nil ?_
   exact Exists.intro (⟨q + 1, by omega, lt_succ_cases hn ((by omega))⟩) (And.intro (Le.mk hB [] ⟨rfl, rfl, rfl, trivial⟩ rfl rfl (Nat.le_refl _)) (by first | omega | (show _ < _; omega) | (simp only []; omega)))
 ·have aH1 := aH1b
  try simp only [qqT, qqF, qqN, qqM, qqL, qqE] at aH1
  refine VC.exit ?_
  refine VC.sr ?_
  refine VO.ma rfl rfl rfl rfl ?_
  refine VO.nil ?_
  refine VC.ret ?_
  exact Exists.intro _ (And.intro (RetN.one Tryz.results23 (ResN.v rfl)) (by rw [errsF_none (fun j hj => hn j (by omega))]))
set_option maxRecDepth 100000 in
theorem rl_whenL {b : Bool} {e : Int}  :
  SpecN Tryz.prog 25 [avB b, avI e] (fun y => y = avI (if b = true then e else 0)) := by
 refine SpecN.of_VCN Tryz.func25 rfl Tryz.ntmps25 (Nle rfl) fun w A hB => ?_
 have hnew : True := trivial
 refine VC.sr ?_
 refine VO.ma rfl rfl rfl rfl ?_
 refine VO.nil ?_
 refine VC.seq ?_
 refine VC.sr ?_
 refine VO.mv rfl rfl rfl rfl ?_
 refine VO.nil ?_
 refine VC.cond rfl (fun aH1b => ?_) (fun aH1b => ?_)
 ·have aH1 := aH1b
  try simp only [qqT, qqF, qqN, qqM, qqL, qqE] at aH1
  refine VC.sr ?_
  refine VO.mv rfl rfl rfl rfl ?_
  refine VO.ma rfl rfl rfl rfl ?_
  refine VO.nil ?_
  refine VC.ret ?_
  exact Exists.intro _ (And.intro (RetN.one Tryz.results25 (ResN.v rfl)) (by simp_all))
 ·have aH1 := aH1b
  try simp only [qqT, qqF, qqN, qqM, qqL, qqE] at aH1
  refine VC.skip ?_
  refine VC.sr ?_
  refine VO.ma rfl rfl rfl rfl ?_
  refine VO.nil ?_
  refine VC.ret ?_
  exact Exists.intro _ (And.intro (RetN.one Tryz.results25 (ResN.v rfl)) (by simp_all))
set_option maxRecDepth 100000 in
theorem rl_looked   :
  SpecN Tryz.prog 34 [] (fun y => y = avB true) := by
 refine SpecN.of_VCN Tryz.func34 rfl Tryz.ntmps34 (Nle rfl) fun w A hB => ?_
 have hnew : True := trivial
 refine VC.sr ?_
 refine VO.ma rfl rfl rfl rfl ?_
 refine VO.nil ?_
 refine VC.sr ?_
 refine VO.val rfl rfl (OpV.build (pls := #[(0, 1), (1, 1), (2, 1), (3, 1), (4, 1), (5, 1), (6, 1), (7, 1)]) rfl Tryz.zeroValue33 Tryz.underlying33 (fun w => by kernel_rfl) rfl rfl) ?_
 refine VO.op rfl (OpE.buildSlice (zc := #[.string ⟨#[]⟩, .string ⟨#[]⟩, .int .i64 0, .int .i64 0, .bool false, .string ⟨#[]⟩, .string ⟨#[]⟩, .string ⟨#[]⟩]) rfl hB rfl Tryz.underlying26 Tryz.sizeOf33 Tryz.zeroValue33 (by decide) (by decide) (by kernel_rfl) rfl rfl ?_)
 refine VO.le _ (Le.recast (t := 5) (y := avL rdL) rfl (fun w Z u h => Rep.rowL (xs := rdL) rfl h)) ?_
 refine VO.op rfl (OpE.call rfl hB rfl Tryz.call137 rfl (SpecN.spec (inspect_Million rdL_sm)) ?_)
 rintro _ rfl
 refine VO.le _ (Le.recast (t := 6) (y := .tup [.agg [avI 1000000, avI ((millN rdL).2 : Int)], avI 0]) rfl (fun w Z u h => by rw [rdL_n, rdL_ok] at h; exact h)) ?_
 refine VO.mv rfl rfl rfl rfl ?_
 refine VO.val rfl rfl (OpV.extract rfl rfl rfl) ?_
 refine VO.val rfl rfl (OpV.extract rfl rfl rfl) ?_
 refine VO.op rfl (OpE.alloc rfl hB rfl Tryz.zeroValue39 rfl ?_)
 intro g1
 refine VO.op rfl (OpE.store (i := 0) rfl hB rfl Tryz.sizeOf39 rfl rfl rfl rfl rfl rfl (Nle rfl) trivial ?_)
 refine VO.ma rfl rfl rfl rfl ?_
 refine VO.nil ?_
 refine VC.sr ?_
 refine VO.mv rfl rfl rfl rfl ?_
 refine VO.val rfl rfl (OpV.eql rfl rfl rfl) ?_
 refine VO.le _ (Le.boolT (t := 10) rfl (decide_eq_true rfl)) ?_
 refine VO.mv rfl rfl rfl rfl ?_
 refine VO.opY rfl rfl rfl rfl rfl ?_
 refine OpE.val (W := NoB) (OpV.fieldAddrO 0 rfl Tryz.underlying39 rfl rfl Tryz.sizeOf3 rfl) rfl ?_
 refine VO.opY rfl rfl rfl rfl rfl ?_
 refine OpE.val (W := NoB) (OpV.load_own (i := 0) rfl hB Tryz.isAgg3 rfl rfl rfl (fun h => h)) rfl ?_
 refine VO.opY rfl rfl rfl rfl rfl ?_
 refine OpE.val (W := NoB) (OpV.eql rfl rfl rfl) rfl ?_
 refine VO.le _ (Le.boolT (t := 14) rfl (decide_eq_true rfl)) ?_
 refine VO.val rfl rfl (OpV.pickT rfl rfl rfl rfl rfl) ?_
 refine VO.ma rfl rfl rfl rfl ?_
 refine VO.nil ?_
 refine VC.ret ?_
 exact Exists.intro _ (And.intro (RetN.one Tryz.results34 (ResN.v rfl)) (rfl))

theorem MrgIs.nil {a b l : List LookS} (h : MrgIs a b l) (he : mrgE a b ≠ 0) : l = [] := by
 rcases h with ⟨_, e⟩ | ⟨o, h1, _⟩
 ·exact e
 ·exact absurd h1 he
theorem MrgIs.len {a b l : List LookS} (h : MrgIs a b l) : l.length ≤ a.length + b.length := by
 rcases h with ⟨_, rfl⟩ | ⟨o, _, h2, h3, _⟩
 ·simp
 ·have := mgo_len h2
  rw [h3.length_eq]; simp at this; omega
end Go.Proofs.YtaaokimiadfidaaGreatDoor
namespace Go.Proofs.YtaaokimiadfidaaGreatDoor
open Go.RowKit
set_option linter.unusedVariables false
set_option linter.unusedSimpArgs false
def kdW : List ByteArray := [nozW, reeW]
def spW : ByteArray := ⟨#[32]⟩
def grpW (l : List LookS) (kind : ByteArray) : List (ByteArray × ShS) := (uK (l.map (nmF kind))).map fun k => (kind ++ spW ++ k, (badN (l.filter fun x => sEq (nmF kind x) k), (l.filter fun x => sEq (nmF kind x) k).length))
theorem grpW_len (l : List LookS) (kind : ByteArray) : (grpW l kind).length = (uK (l.map (nmF kind))).length := by simp [grpW]
theorem grpW_noz (l : List LookS) : grpW l nozW = grpL (·.nozzle) nozK l := by
 have e : nmF nozW = fun x : LookS => x.nozzle := funext fun x => nmF_n (sEq_eq.2 rfl)
 unfold grpW grpL
 rw [e]
 refine List.map_congr_left fun k _ => ?_
 have : (fun x : LookS => sEq x.nozzle k) = fun x => decide (x.nozzle = k) := funext fun x => sEq_dec _ _
 rw [this]
 congr 1
theorem grpW_ree (l : List LookS) : grpW l reeW = grpL (·.reel) reeK l := by
 have e : nmF reeW = fun x : LookS => x.reel := funext fun x => nmF_r (by decide +kernel)
 unfold grpW grpL
 rw [e]
 refine List.map_congr_left fun k _ => ?_
 have : (fun x : LookS => sEq x.reel k) = fun x => decide (x.reel = k) := funext fun x => sEq_dec _ _
 rw [this]
 congr 1
def susQ (l : List LookS) (n : Int) (q r : Nat) : ByteArray × ShS := ((kdW.take q).flatMap (grpW l) ++ (grpW l (kdW.getD q ByteArray.empty)).take r).foldl (susStep n) (⟨#[]⟩, (badN l, l.length))
theorem susQ_00 (l : List LookS) (n : Int) : susQ l n 0 0 = (⟨#[]⟩, (badN l, l.length)) := by simp [susQ]
theorem susQ_next {l : List LookS} {n : Int} {q : Nat} (h : q < 2) : susQ l n q (uK (l.map (nmF (kdW.getD q ByteArray.empty)))).length = susQ l n (q + 1) 0 := by
 unfold susQ
 rw [List.take_of_length_le (l := grpW l (kdW.getD q ByteArray.empty)) (by rw [grpW_len]; exact Nat.le_refl _), List.take_zero, List.append_nil]
 have : kdW.take (q + 1) = kdW.take q ++ [kdW.getD q ByteArray.empty] := by
  rw [List.take_succ_eq_append_getElem (show q < kdW.length from h)]
  congr 2
  simp [show q < kdW.length from h]
 rw [this, List.flatMap_append]
 simp
theorem susQ_end (l : List LookS) (n : Int) : susQ l n 2 0 = susL l n := by
 unfold susQ susL
 rw [susAll_eq, ← grpW_noz, ← grpW_ree]
 simp [kdW]
theorem susQ_succ {l : List LookS} {n : Int} {q r : Nat} {kind k : ByteArray} (hk : kdW.getD q ByteArray.empty = kind) (h : r < (uK (l.map (nmF kind))).length) (hkk : (uK (l.map (nmF kind))).getD r ByteArray.empty = k) :
  susQ l n q (r + 1) = susStep n (susQ l n q r) (kind ++ spW ++ k, (badN (l.filter fun x => sEq (nmF kind x) k), (l.filter fun x => sEq (nmF kind x) k).length)) := by
 unfold susQ
 rw [hk, List.take_succ_eq_append_getElem (by rw [grpW_len]; exact h), ← List.append_assoc, List.foldl_append, List.foldl_cons, List.foldl_nil]
 congr 1
 subst hkk
 simp [grpW, h]
theorem susQ_bd {l : List LookS} {n : Int} (hl : l.length ≤ 1000000) (q r : Nat) : (susQ l n q r).2.1 ≤ 2000000 ∧ (susQ l n q r).2.2 ≤ 2000000 := by
 unfold susQ
 have hb := badN_le l
 generalize hL : (kdW.take q).flatMap (grpW l) ++ (grpW l (kdW.getD q ByteArray.empty)).take r = L
 have hin : ∀ p ∈ L, p.2.1 ≤ 2000000 ∧ p.2.2 ≤ 2000000 := fun p hp => by
  rw [← hL, List.mem_append] at hp
  have : ∃ kind, p ∈ grpW l kind := by
   rcases hp with hp | hp
   ·obtain ⟨k, _, h⟩ := List.mem_flatMap.1 hp; exact ⟨k, h⟩
   ·exact ⟨_, List.mem_of_mem_take hp⟩
  obtain ⟨kind, h⟩ := this
  obtain ⟨k, _, rfl⟩ := List.mem_map.1 h
  have h1 := badN_le (l.filter fun x => sEq (nmF kind x) k)
  have h2 := List.length_filter_le (fun x => sEq (nmF kind x) k) l
  simp only; omega
 have : ∀ (L : List (ByteArray × ShS)) (a : ByteArray × ShS), (∀ p ∈ L, p.2.1 ≤ 2000000 ∧ p.2.2 ≤ 2000000) → a.2.1 ≤ 2000000 ∧ a.2.2 ≤ 2000000 → (L.foldl (susStep n) a).2.1 ≤ 2000000 ∧ (L.foldl (susStep n) a).2.2 ≤ 2000000 := by
  intro L
  induction L with
  | nil => intro a _ h; exact h
  | cons p L ih =>
   intro a h1 h2
   rw [List.foldl_cons]
   refine ih _ (fun p hp => h1 p (List.mem_cons_of_mem _ hp)) ?_
   unfold susStep
   split
   ·exact h1 p (List.mem_cons_self ..)
   ·exact h2
 exact this L _ hin (by simp only; omega)
theorem kdW_size (q : Nat) : (kdW.getD q ByteArray.empty).size ≤ 6 := by
 match q with
 | 0 => decide
 | 1 => decide
 | q + 2 => simp [kdW]
theorem uK_size {l : List ByteArray} {m : Nat} (h : ∀ x ∈ l, x.size ≤ m) (r : Nat) : ((uK l).getD r ByteArray.empty).size ≤ m := by
 rw [List.getD_eq_getElem?_getD]
 cases hr : (uK l)[r]? with
 | none => exact Nat.zero_le _
 | some x => exact h x (uK_mem.1 (List.mem_of_getElem? hr))
theorem nmF_size {l : List LookS} (hs : SmLk l) (kind : ByteArray) : ∀ x ∈ l.map (nmF kind), x.size ≤ 1000000 := fun x hx => by
 obtain ⟨y, hy, rfl⟩ := List.mem_map.1 hx
 obtain ⟨i, hi, rfl⟩ := List.getElem_of_mem hy
 have h2 := hs.nozzle i
 have h3 := hs.reel i
 rw [List.getD_eq_getElem?_getD, List.getElem?_eq_getElem hi] at h2 h3
 unfold nmF; split <;> assumption
def susRf (l : List LookS) (n : Int) : ByteArray × (Nat × Nat) × Bool := if susOk l n = true then ((susL l n).1, lowN (susL l n).2.1 (susL l n).2.2, true) else (⟨#[]⟩, (0, 0), false)
theorem susRf_none {l : List LookS} {n : Int} (h : sEq (susL l n).1 ⟨#[]⟩ = true) : susRf l n = (⟨#[]⟩, (0, 0), false) := by rw [susRf, if_neg (fun h' => by unfold susOk at h'; rw [h] at h'; cases h')]
theorem susRf_some {l : List LookS} {n : Int} (h : sEq (susL l n).1 ⟨#[]⟩ = false) : susRf l n = ((susL l n).1, lowN (susL l n).2.1 (susL l n).2.2, true) := by rw [susRf, if_pos (by unfold susOk; rw [h]; rfl)]
theorem susR_eq {l : List LookS} {n : Int} (h : leastE l n = 0) : susR l n = susRf l n := by
 unfold susR susRf
 by_cases h2 : susOk l n = true
 ·rw [if_pos ⟨h, h2⟩, if_pos h2]
 ·rw [if_neg (fun h' => h2 h'.2), if_neg h2]
set_option maxRecDepth 100000 in
set_option maxHeartbeats 8000000 in
theorem rf_SuspectOf {l : List LookS} {n : Int} (hs : SmLk l) :
  SpecN Tryz.prog 29 [avL l, avI n] (fun y => y = .tup [avS (susRf l n).1, .agg [avI ((susRf l n).2.1.1 : Int), avI ((susRf l n).2.1.2 : Int)], avB (susRf l n).2.2]) := by
 refine SpecN.of_VCN Tryz.func29 rfl Tryz.ntmps29 (Nle rfl) fun w A hB => ?_
 have hnew : True := trivial
 refine VC.seq ?_
 have hl := hs.len
 have hbl := badN_le l
 have hk2 : kdW.length = 2 := rfl
 refine VC.region ?_
 refine VO.ma rfl rfl rfl rfl ?_
 refine VO.op rfl (OpE.alloc rfl hB rfl Tryz.zeroValue39 rfl ?_)
 intro g5
 refine VO.ma rfl rfl rfl rfl ?_
 refine VO.nil ?_
 refine VC.sr ?_
 refine VO.mv rfl rfl rfl rfl ?_
 refine VO.op rfl (OpE.call rfl hB rfl Tryz.call130 rfl (SpecN.spec (rf_bad hl)) ?_)
 rintro _ rfl
 refine VO.mv rfl rfl rfl rfl ?_
 refine VO.val rfl rfl (OpV.len_im rfl Tryz.underlying26 rfl) ?_
 refine VO.ma rfl rfl rfl rfl ?_
 refine VO.ma rfl rfl rfl rfl ?_
 refine VO.ma rfl rfl rfl rfl ?_
 refine VO.nil ?_
 refine VC.seq ?_
 refine VC.sr ?_
 refine VO.op rfl (OpE.buildSlice (zc := #[.string ⟨#[]⟩, .string ⟨#[]⟩]) rfl hB rfl Tryz.underlying67 Tryz.sizeOf9 Tryz.zeroValue9 (by decide) (by decide) (by kernel_rfl) rfl rfl ?_)
 refine VO.le _ (Le.litsS (t := 20) (xs := kdW) rfl rfl) ?_
 refine VO.val rfl rfl (OpV.len_im rfl Tryz.underlying67 rfl) ?_
 refine VO.mv rfl rfl rfl rfl ?_
 refine VO.nil ?_
 refine VC.block ?_
 refine VC.loopK [(0, _), (1, _), (5, _), (20, _), (21, _)] ⟨rfl, rfl, rfl, rfl, rfl, trivial⟩ ({q : Nat // q ≤ 2}) (fun (iZ : {q : Nat // q ≤ 2}) => match iZ with | ⟨q, hq⟩ => [(7, avS (susQ l n q 0).1), (8, avI ((susQ l n q 0).2.1 : Int)), (9, avI ((susQ l n q 0).2.2 : Int)), (22, avI (q : Int))]) (fun (iZ : {q : Nat // q ≤ 2}) => match iZ with | ⟨q, hq⟩ => [.box g5 ⟨[avI 0, avI 0], 39, 2⟩]) (fun (iZ : {q : Nat // q ≤ 2}) => match iZ with | ⟨q, hq⟩ => 0) (fun (iZ : {q : Nat // q ≤ 2}) => match iZ with | ⟨q, hq⟩ => 2 - q) ⟨0, Nat.zero_le _⟩ (Le.mk hB [0] ⟨(by rw [susQ_00]; rfl), (by rw [susQ_00]; rfl), (by rw [susQ_00]; rfl), rfl, rfl, rfl, rfl, rfl, rfl, trivial⟩ rfl rfl (Nat.le_refl _)) ?_
 rintro ⟨q, hq⟩
 show VC _ _ _ _ ⟨[(7, avS (susQ l n q 0).1), (8, avI ((susQ l n q 0).2.1 : Int)), (9, avI ((susQ l n q 0).2.2 : Int)), (22, avI (q : Int))] ++ [(0, _), (1, _), (5, _), (20, _), (21, _)], [.box g5 ⟨[avI 0, avI 0], 39, 2⟩], 0⟩
 refine VC.sr ?_
 refine VO.val rfl rfl (OpV.lss rfl rfl rfl) ?_
 refine VO.nil ?_
 refine VC.seq ?_
 refine VC.cond rfl (fun aH1b => ?_) (fun aH1b => ?_)
 ·have aH1 := aH1b
  try simp only [qqT, qqF, qqN, qqM, qqL, qqE] at aH1
  refine VC.skip ?_
  refine VC.seq ?_
  refine VC.block ?_
  refine VC.sr ?_
  refine VO.val rfl rfl (OpV.indexAddr_1 rfl Tryz.underlying67 Tryz.sizeOf9 rfl rfl rfl (by omega)) ?_
  refine VO.val rfl rfl (OpV.load_at rfl hB OutW.no Tryz.isAgg9 rfl rfl) ?_
  refine VO.op rfl (OpE.alloc rfl hB rfl Tryz.zeroValue9 rfl ?_)
  intro gk
  refine VO.op rfl (OpE.store (i := 1) rfl hB rfl Tryz.sizeOf9 rfl rfl rfl rfl rfl rfl (Nle rfl) trivial ?_)
  refine VO.nil ?_
  refine VC.sr ?_
  refine VO.val rfl rfl (OpV.makeFunc1 rfl rfl) ?_
  refine VO.op rfl (OpE.alloc rfl hB rfl Tryz.zeroValue177 rfl ?_)
  intro gn
  refine VO.op rfl (OpE.store (i := 2) rfl hB rfl Tryz.sizeOf177 rfl rfl rfl rfl rfl rfl (Nle rfl) trivial ?_)
  refine VO.nil ?_
  refine VC.sr ?_
  refine VO.mv rfl rfl rfl rfl ?_
  refine VO.val rfl rfl (OpV.load_own (i := 2) rfl hB Tryz.isAgg177 rfl rfl rfl (fun h => h)) ?_
  refine VO.op rfl (OpE.callH (hp := [_]) (rest := [_, _]) rfl hB rfl Tryz.call126 rfl rfl (rf_keys (l := l) (hpC := [bxS gk (kdW.getD q ByteArray.empty)]) (f := nmF (kdW.getD q ByteArray.empty)) hl Tryz.call131 (fun x => rf_SuspectOf1)) (List.Perm.swap _ _ _) (fun _ _ => trivial) ?_)
  rintro _ _ ⟨u29, rfl, rfl⟩
  refine VO.le _ (Le.rowS (t := 29) (i := 0) hB hnew rfl rfl rfl) ?_
  refine VO.val rfl rfl (OpV.len_im rfl Tryz.underlying67 rfl) ?_
  refine VO.mv rfl rfl rfl rfl ?_
  refine VO.nil ?_
  refine VC.block ?_
  obtain ⟨kind, hkd⟩ : ∃ kind, kdW.getD q ByteArray.empty = kind := ⟨_, rfl⟩
  rw [hkd]
  refine VC.loopK [(0, _), (1, _), (5, _), (11, _), (12, _), (20, _), (21, _), (22, _), (29, _), (30, _)] ⟨rfl, rfl, rfl, rfl, rfl, rfl, rfl, rfl, rfl, rfl, trivial⟩ ({r : Nat // r ≤ (uK (l.map (nmF kind))).length}) (fun (iZ : {r : Nat // r ≤ (uK (l.map (nmF kind))).length}) => match iZ with | ⟨r, hq1⟩ => [(7, avS (susQ l n q r).1), (8, avI ((susQ l n q r).2.1 : Int)), (9, avI ((susQ l n q r).2.2 : Int)), (31, avI (r : Int))]) (fun (iZ : {r : Nat // r ≤ (uK (l.map (nmF kind))).length}) => match iZ with | ⟨r, hq1⟩ => [bxS gk kind, .box g5 ⟨[avI 0, avI 0], 39, 2⟩, bxN gn gk]) (fun (iZ : {r : Nat // r ≤ (uK (l.map (nmF kind))).length}) => match iZ with | ⟨r, hq1⟩ => 0) (fun (iZ : {r : Nat // r ≤ (uK (l.map (nmF kind))).length}) => match iZ with | ⟨r, hq1⟩ => (uK (l.map (nmF kind))).length - r) ⟨0, Nat.zero_le _⟩ (Le.mk hB [0, 1, 2] ⟨rfl, rfl, rfl, rfl, rfl, rfl, rfl, rfl, rfl, rfl, rfl, rfl, rfl, rfl, trivial⟩ rfl rfl (Nat.le_refl _)) ?_
  rintro ⟨r, hq1⟩
  show VC _ _ _ _ ⟨[(7, avS (susQ l n q r).1), (8, avI ((susQ l n q r).2.1 : Int)), (9, avI ((susQ l n q r).2.2 : Int)), (31, avI (r : Int))] ++ [(0, _), (1, _), (5, _), (11, _), (12, _), (20, _), (21, _), (22, _), (29, _), (30, _)], [bxS gk kind, .box g5 ⟨[avI 0, avI 0], 39, 2⟩, bxN gn gk], 0⟩
  have hkl : (uK (l.map (nmF kind))).length ≤ l.length := by have h := uK_len (l.map (nmF kind)); rwa [List.length_map] at h
  refine VC.sr ?_
  refine VO.val rfl rfl (OpV.lss rfl rfl rfl) ?_
  refine VO.nil ?_
  refine VC.seq ?_
  refine VC.cond rfl (fun aH2b => ?_) (fun aH2b => ?_)
  ·have aH2 := aH2b
   try simp only [qqT, qqF, qqN, qqM, qqL, qqE] at aH2
   refine VC.skip ?_
   refine VC.seq ?_
   refine VC.block ?_
   refine VC.seq ?_
   obtain ⟨k, hke⟩ : ∃ k, (uK (l.map (nmF kind))).getD r ByteArray.empty = k := ⟨_, rfl⟩
   have hks : k.size ≤ 1000000 := by rw [← hke]; exact uK_size (nmF_size hs kind) r
   have hkds : kind.size ≤ 6 := by rw [← hkd]; exact kdW_size q
   have hfl := List.length_filter_le (fun x => sEq (nmF kind x) k) l
   have hfb := badN_le (l.filter fun x => sEq (nmF kind x) k)
   have hqb := susQ_bd (n := n) hl q r
   refine VC.region ?_
   refine VO.val rfl rfl (OpV.indexAddr_1 rfl Tryz.underlying67 Tryz.sizeOf9 rfl rfl rfl (by omega)) ?_
   refine VO.val rfl rfl (OpV.load_at rfl hB OutW.no Tryz.isAgg9 rfl rfl) ?_
   refine VO.le _ (Le.recast (t := 34) (y := avS k) rfl (fun w Z u h => by rw [← hke]; exact h)) ?_
   refine VO.op rfl (OpE.alloc rfl hB rfl Tryz.zeroValue9 rfl ?_)
   intro gx
   refine VO.le _ (Le.pickH [2, 3, 0, 1] rfl rfl) ?_
   refine VO.op rfl (OpE.store (i := 1) rfl hB rfl Tryz.sizeOf9 rfl rfl rfl rfl rfl rfl (Nle rfl) trivial ?_)
   refine VO.nil ?_
   refine VC.sr ?_
   refine VO.mv rfl rfl rfl rfl ?_
   refine VO.val rfl rfl (OpV.makeFunc2 rfl rfl rfl) ?_
   refine VO.op rfl (OpE.callH (hp := [_, _, _]) (rest := [_]) rfl hB rfl Tryz.call128 rfl rfl (rf_which (l := l) (hpC := [bxN gn gk, bxS gx k, bxS gk kind]) (p := fun x => sEq (nmF kind x) k) hl Tryz.call132 (fun x => rf_SuspectOf2)) (List.Perm.refl _) (fun _ _ => trivial) ?_)
   rintro _ _ ⟨u37, rfl, rfl⟩
   refine VO.le _ (Le.rowT (t := 37) (i := 0) hB hnew rfl rfl rfl) ?_
   refine VO.ma rfl rfl rfl rfl ?_
   refine VO.nil ?_
   refine VC.sr ?_
   refine VO.mv rfl rfl rfl rfl ?_
   refine VO.val rfl rfl (OpV.len_im rfl Tryz.underlying26 rfl) ?_
   refine VO.mv rfl rfl rfl rfl ?_
   refine VO.val rfl rfl (OpV.geq rfl rfl rfl) ?_
   refine VO.mv rfl rfl rfl rfl ?_
   refine VO.opG rfl rfl rfl rfl (fun aK3b => ?_) (fun aK3b => ?_)
   ·replace aK3b : _ = true := aK3b
    have aK3 := aK3b
    try simp only [qqT, qqF, qqN, qqM, qqL, qqE] at aK3
    refine OpE.val (W := NoB) (OpV.move (.inl rfl) rfl) rfl ?_
    refine VO.opY rfl rfl rfl rfl aK3b ?_
    refine OpE.call rfl hB rfl Tryz.call130 rfl (SpecN.spec (rf_bad (by omega))) ?_
    rintro _ rfl
    refine VO.opY rfl rfl rfl rfl aK3b ?_
    refine OpE.val (W := NoB) (OpV.move (.inl rfl) rfl) rfl ?_
    refine VO.opY rfl rfl rfl rfl aK3b ?_
    refine OpE.val (W := NoB) (OpV.mul rfl rfl rfl (by have h := prodB (a := badN (l.filter fun x => sEq (nmF kind x) k)) (b := (susQ l n q r).2.2) (by omega) (by omega); unfold fits; omega)) rfl ?_
    refine VO.opY rfl rfl rfl rfl aK3b ?_
    refine OpE.val (W := NoB) (OpV.move (.inl rfl) rfl) rfl ?_
    refine VO.opY rfl rfl rfl rfl aK3b ?_
    refine OpE.val (W := NoB) (OpV.move (.inl rfl) rfl) rfl ?_
    refine VO.opY rfl rfl rfl rfl aK3b ?_
    refine OpE.val (W := NoB) (OpV.len_im rfl Tryz.underlying26 rfl) rfl ?_
    refine VO.opY rfl rfl rfl rfl aK3b ?_
    refine OpE.val (W := NoB) (OpV.mul rfl rfl rfl (by have h := prodB (a := (susQ l n q r).2.1) (b := (l.filter fun x => sEq (nmF kind x) k).length) (by omega) (by omega); unfold fits; omega)) rfl ?_
    refine VO.opY rfl rfl rfl rfl aK3b ?_
    refine OpE.val (W := NoB) (OpV.gtr rfl rfl rfl) rfl ?_
    refine VO.le _ (Le.recast (t := 51) (y := avB (grt (badN (l.filter fun x => sEq (nmF kind x) k), (l.filter fun x => sEq (nmF kind x) k).length) (susQ l n q r).2)) rfl (fun w Z u h => by rw [← grt_int]; exact h)) ?_
    refine VO.val rfl rfl (OpV.pickT rfl rfl rfl rfl aK3b) ?_
    refine VO.nil ?_
    refine VC.cond rfl (fun aH4b => ?_) (fun aH4b => ?_)
    ·have aH4 := aH4b
     try simp only [qqT, qqF, qqN, qqM, qqL, qqE] at aH4
     refine VC.draw (fun _ => NoB) hB (by kernel_rfl) ?_
     refine VA.take (i := 0) rfl (by kernel_rfl) (by kernel_rfl) (by kernel_rfl) rfl rfl (OpV.load_own (i := 2) rfl hB Tryz.isAgg9 rfl rfl rfl Wi.not0) ?_
     refine VA.take (i := 1) rfl (by kernel_rfl) (by kernel_rfl) (by kernel_rfl) rfl rfl (OpV.sadd rfl rfl rfl (by have h : (⟨#[32]⟩ : ByteArray).size = 1 := rfl; omega)) ?_
     refine VA.take (i := 2) rfl (by kernel_rfl) (by kernel_rfl) (by kernel_rfl) rfl rfl (OpV.load_own (i := 1) rfl hB Tryz.isAgg9 rfl rfl rfl Wi.not0) ?_
     refine VA.take (i := 3) rfl (by kernel_rfl) (by kernel_rfl) (by kernel_rfl) rfl rfl (OpV.sadd rfl rfl rfl (by have h : (⟨#[32]⟩ : ByteArray).size = 1 := rfl; rw [ByteArray.size_append]; omega)) ?_
     refine VA.take (i := 4) rfl (by kernel_rfl) (by kernel_rfl) (by kernel_rfl) rfl rfl (OpV.move (.inl rfl) rfl) ?_
     refine VA.take (i := 6) rfl (by kernel_rfl) (by kernel_rfl) (by kernel_rfl) rfl rfl (OpV.move (.inl rfl) rfl) ?_
     refine VA.take (i := 7) rfl (by kernel_rfl) (by kernel_rfl) (by kernel_rfl) rfl rfl (OpV.len_im rfl Tryz.underlying26 rfl) ?_
     refine VA.all (rs := [5]) (by kernel_rfl) (by decide) ?_
     refine ⟨⟨_, rfl, .inl rfl, ?_⟩, trivial⟩
     refine OpE.call rfl hB rfl Tryz.call130 rfl (SpecN.spec (rf_bad (by omega))) ?_
     rintro _ rfl
     refine VA.take (i := 8) rfl (by kernel_rfl) (by kernel_rfl) (by kernel_rfl) rfl rfl (OpV.move (.inr rfl) rfl) ?_
     refine VA.take (i := 9) rfl (by kernel_rfl) (by kernel_rfl) (by kernel_rfl) rfl rfl (OpV.move (.inr rfl) rfl) ?_
     refine VA.take (i := 10) rfl (by kernel_rfl) (by kernel_rfl) (by kernel_rfl) rfl rfl (OpV.move (.inr rfl) rfl) ?_
     refine VA.done (by kernel_rfl) ?_
     refine VC.region ?_
     refine VO.val rfl rfl (OpV.add rfl rfl rfl (by unfold fits; omega)) ?_
     refine VO.mv rfl rfl rfl rfl ?_
     refine VO.nil ?_
     exact Exists.intro (⟨r + 1, by omega⟩) (And.intro (Le.pick hB [2, 3, 0] ⟨(by first | (rw [susQ_succ hkd (by omega) hke, susStep_y (by assumption) (by assumption)]; rfl) | (rw [susQ_succ hkd (by omega) hke, susStep_n (by first | exact .inl (by omega) | exact .inr (by assumption))]; rfl)), (by first | (rw [susQ_succ hkd (by omega) hke, susStep_y (by assumption) (by assumption)]; rfl) | (rw [susQ_succ hkd (by omega) hke, susStep_n (by first | exact .inl (by omega) | exact .inr (by assumption))]; rfl)), (by first | (rw [susQ_succ hkd (by omega) hke, susStep_y (by assumption) (by assumption)]; rfl) | (rw [susQ_succ hkd (by omega) hke, susStep_n (by first | exact .inl (by omega) | exact .inr (by assumption))]; rfl)), rfl, rfl, rfl, rfl, rfl, rfl, rfl, rfl, rfl, rfl, rfl, trivial⟩ rfl rfl (Nat.le_refl _)) (by first | omega | (show _ < _; omega) | (simp only []; omega)))
    ·have aH4 := aH4b
     try simp only [qqT, qqF, qqN, qqM, qqL, qqE] at aH4
     refine VC.skip ?_
     refine VC.region ?_
     refine VO.val rfl rfl (OpV.add rfl rfl rfl (by unfold fits; omega)) ?_
     refine VO.mv rfl rfl rfl rfl ?_
     refine VO.nil ?_
     exact Exists.intro (⟨r + 1, by omega⟩) (And.intro (Le.pick hB [2, 3, 0] ⟨(by first | (rw [susQ_succ hkd (by omega) hke, susStep_y (by assumption) (by assumption)]; rfl) | (rw [susQ_succ hkd (by omega) hke, susStep_n (by first | exact .inl (by omega) | exact .inr (by assumption))]; rfl)), (by first | (rw [susQ_succ hkd (by omega) hke, susStep_y (by assumption) (by assumption)]; rfl) | (rw [susQ_succ hkd (by omega) hke, susStep_n (by first | exact .inl (by omega) | exact .inr (by assumption))]; rfl)), (by first | (rw [susQ_succ hkd (by omega) hke, susStep_y (by assumption) (by assumption)]; rfl) | (rw [susQ_succ hkd (by omega) hke, susStep_n (by first | exact .inl (by omega) | exact .inr (by assumption))]; rfl)), rfl, rfl, rfl, rfl, rfl, rfl, rfl, rfl, rfl, rfl, rfl, trivial⟩ rfl rfl (Nat.le_refl _)) (by first | omega | (show _ < _; omega) | (simp only []; omega)))
   ·replace aK3b : _ = false := aK3b
    have aK3 := aK3b
    try simp only [qqT, qqF, qqN, qqM, qqL, qqE] at aK3
    refine VO.opX rfl rfl rfl rfl aK3b ?_
    refine VO.opX rfl rfl rfl rfl aK3b ?_
    refine VO.opX rfl rfl rfl rfl aK3b ?_
    refine VO.opX rfl rfl rfl rfl aK3b ?_
    refine VO.opX rfl rfl rfl rfl aK3b ?_
    refine VO.opX rfl rfl rfl rfl aK3b ?_
    refine VO.opX rfl rfl rfl rfl aK3b ?_
    refine VO.opX rfl rfl rfl rfl aK3b ?_
    refine VO.val rfl rfl (OpV.pickF rfl rfl rfl rfl aK3b) ?_
    refine VO.nil ?_
    refine VC.condF rfl rfl ?_
    refine VC.skip ?_
    refine VC.region ?_
    refine VO.val rfl rfl (OpV.add rfl rfl rfl (by unfold fits; omega)) ?_
    refine VO.mv rfl rfl rfl rfl ?_
    refine VO.nil ?_
    exact Exists.intro (⟨r + 1, by omega⟩) (And.intro (Le.pick hB [2, 3, 0] ⟨(by first | (rw [susQ_succ hkd (by omega) hke, susStep_y (by assumption) (by assumption)]; rfl) | (rw [susQ_succ hkd (by omega) hke, susStep_n (by first | exact .inl (by omega) | exact .inr (by assumption))]; rfl)), (by first | (rw [susQ_succ hkd (by omega) hke, susStep_y (by assumption) (by assumption)]; rfl) | (rw [susQ_succ hkd (by omega) hke, susStep_n (by first | exact .inl (by omega) | exact .inr (by assumption))]; rfl)), (by first | (rw [susQ_succ hkd (by omega) hke, susStep_y (by assumption) (by assumption)]; rfl) | (rw [susQ_succ hkd (by omega) hke, susStep_n (by first | exact .inl (by omega) | exact .inr (by assumption))]; rfl)), rfl, rfl, rfl, rfl, rfl, rfl, rfl, rfl, rfl, rfl, rfl, trivial⟩ rfl rfl (Nat.le_refl _)) (by first | omega | (show _ < _; omega) | (simp only []; omega)))
  ·have aH2 := aH2b
   try simp only [qqT, qqF, qqN, qqM, qqL, qqE] at aH2
   obtain rfl : r = (uK (l.map (nmF kind))).length := by omega
   subst hkd
   refine VC.exit ?_
   refine VC.region ?_
   refine VO.val rfl rfl (OpV.add rfl rfl rfl (by unfold fits; omega)) ?_
   refine VO.mv rfl rfl rfl rfl ?_
   refine VO.nil ?_
   exact Exists.intro (⟨q + 1, by omega⟩) (And.intro (Le.mk hB [1] ⟨(by rw [← susQ_next (by omega)]; rfl), (by rw [← susQ_next (by omega)]; rfl), (by rw [← susQ_next (by omega)]; rfl), rfl, rfl, rfl, rfl, rfl, rfl, trivial⟩ rfl rfl (Nat.le_refl _)) (by first | omega | (show _ < _; omega) | (simp only []; omega)))
 ·have aH1 := aH1b
  try simp only [qqT, qqF, qqN, qqM, qqL, qqE] at aH1
  obtain rfl : q = 2 := by omega
  rw [susQ_end]
  have hqb := susQ_bd (n := n) hl 2 0
  rw [susQ_end] at hqb
  refine VC.exit ?_
  refine VC.seq ?_
  refine VC.sr ?_
  refine VO.mv rfl rfl rfl rfl ?_
  refine VO.val rfl rfl (OpV.seql rfl rfl rfl) ?_
  refine VO.nil ?_
  refine VC.cond rfl (fun h3b => ?_) (fun h3b => ?_)
  ·have h3 := h3b
   try simp only [qqT, qqF, qqN, qqM, qqL, qqE] at h3
   refine VC.sr ?_
   refine VO.val rfl rfl (OpV.build (pls := #[(0, 1), (1, 1)]) rfl Tryz.zeroValue39 Tryz.underlying39 (fun w => by kernel_rfl) rfl rfl) ?_
   refine VO.ma rfl rfl rfl rfl ?_
   refine VO.op rfl (OpE.store (i := 0) rfl hB rfl Tryz.sizeOf39 rfl rfl rfl rfl rfl rfl (Nle rfl) trivial ?_)
   refine VO.ma rfl rfl rfl rfl ?_
   refine VO.nil ?_
   refine VC.ret ?_
   exact Exists.intro _ (And.intro (RetN.three Tryz.results29 (ResN.v rfl) ((by first | exact ResN.cellF (i := 0) Tryz.isAgg39 Tryz.sizeOf39 rfl rfl rfl (flat_ofB rfl))) (ResN.v rfl)) (by rw [susRf_none h3]; rfl))
  ·have h3 := h3b
   try simp only [qqT, qqF, qqN, qqM, qqL, qqE] at h3
   refine VC.skip ?_
   refine VC.sr ?_
   refine VO.mv rfl rfl rfl rfl ?_
   refine VO.mv rfl rfl rfl rfl ?_
   refine VO.mv rfl rfl rfl rfl ?_
   refine VO.op rfl (OpE.call rfl hB rfl Tryz.call133 rfl (SpecN.spec (rf_Lowest (a := (susL l n).2.1) (b := (susL l n).2.2) (by omega) (by omega) (susL_pos h3b))) ?_)
   rintro _ rfl
   refine VO.ma rfl rfl rfl rfl ?_
   refine VO.op rfl (OpE.store (i := 0) rfl hB rfl Tryz.sizeOf39 rfl rfl rfl rfl rfl rfl (Nle rfl) trivial ?_)
   refine VO.ma rfl rfl rfl rfl ?_
   refine VO.nil ?_
   refine VC.ret ?_
   exact Exists.intro _ (And.intro (RetN.three Tryz.results29 (ResN.v rfl) ((by first | exact ResN.cellF (i := 0) Tryz.isAgg39 Tryz.sizeOf39 rfl rfl rfl (flat_ofB rfl))) (ResN.v rfl)) (by rw [susRf_some h3]; rfl))
end Go.Proofs.YtaaokimiadfidaaGreatDoor
namespace Go.Proofs.YtaaokimiadfidaaGreatDoor
open Go.RowKit
set_option linter.unusedVariables false
set_option linter.unusedSimpArgs false
section
variable {P : Program} {ops : Array Oper} {Q : Act → World → Prop} {md : Region.Mode} {E : Nat → World → World → Prop}
theorem wpAnyE_firstT {S : Nat → Bool} {F : World → World → Prop} (htr : ∀ x y z, F x y → F y z → F x z) (hrf : ∀ x, F x x) {i : Nat} (hEr : ∀ x, E i x x)
  (hEF : ∀ j oj, ops[j]? = some oj → S j = false → ∀ w w', E j w w' → F w w') (hcl : ∀ k, S k = true → k ≠ i → ∃ ok, ops[k]? = some ok ∧ ∃ e ∈ ok.after, Region.binds md e = true ∧ S e.on = true)
  {oi : Oper} {v : Value} (hi : ops[i]? = some oi) (hsel : ∀ (j : Nat) (o : Oper) cs b, ops[j]? = some o → o.op ≠ .select cs b) :
  ∀ (fuel : Nat) (listed : Array Bool) (a : Act) (w : World), (∀ k, S k = true → listed.getD k true = false) →
   (∀ j oj, ops[j]? = some oj → j ≠ i → listed.getD j true = false → (∀ e ∈ oj.after, Region.binds md e = true → e.on ≠ i) → oi.apart ops oj = true) →
   i ∈ Region.ready md ops listed → YieldsE P ops F oi v a w →
   wpAnyE P md ops Q E fuel (listed.setIfInBounds i true) (a.put oi.dst v) w → wpAnyE P md ops Q E (fuel + 1) listed a w := by
 intro fuel
 induction fuel with
 | zero =>
  intro listed a w _ _ hr hy H
  refine ⟨fun h => (by rw [h] at hr; cases hr), fun j hj => ?_⟩
  by_cases hji : j = i
  ·subst hji; exact YieldsIf.wpOp hi hy.iff (hrf w) ⟨hEr w, H⟩
  ·have := ready_mono hj hji
   rw [H.1] at this
   cases this
 | succ fuel ih =>
  intro listed a w hS hfree hr hy H
  refine ⟨fun h => (by rw [h] at hr; cases hr), fun j hj => ?_⟩
  by_cases hji : j = i
  ·subst hji; exact YieldsIf.wpOp hi hy.iff (hrf w) ⟨hEr w, H⟩
  ·have h1 := H.2 j (ready_mono hj hji)
   obtain ⟨hjun, oj, hoj, hall⟩ := mem_ready.1 hj
   have hnot : ∀ e ∈ oj.after, Region.binds md e = true → e.on ≠ i := fun e he hb heq => by
    have h1 := hall e he hb
    have h0 := (mem_ready.1 hr).1
    rw [heq] at h1
    rcases Nat.lt_or_ge i listed.size with h' | h'
    ·simp [h'] at h0 h1; rw [h0] at h1; cases h1
    ·simp [Array.getElem?_eq_none h'] at h1
   have hjS : S j = false := by
    cases hc : S j with
    | false => rfl
    | true =>
     obtain ⟨ok, k1, e, he, hb, k2⟩ := hcl j hc hji
     obtain rfl : oj = ok := Option.some.inj (hoj.symm.trans k1)
     have h1 := hall e he hb
     have h0 := hS e.on k2
     rcases Nat.lt_or_ge e.on listed.size with h' | h'
     ·simp [h'] at h0 h1; rw [h0] at h1; cases h1
     ·simp [Array.getElem?_eq_none h'] at h1
   have h2 := wpOp_putIf (S := F w) hoj (hfree j oj hoj hji hjun hnot) (fun cs b => hsel i oi cs b hi) (fun cs b => hsel j oj cs b hoj) (fun c a w h => h.elim) hy.iff h1
   have hfree' : ∀ k ok, ops[k]? = some ok → k ≠ i → (listed.setIfInBounds j true).getD k true = false →
     (∀ e ∈ ok.after, Region.binds md e = true → e.on ≠ i) → oi.apart ops ok = true := fun k ok hk hki hun hno => by
    refine hfree k ok hk hki ?_ hno
    by_cases hjk : j = k
    ·subst hjk; exact hjun
    ·rw [Go.getD_set_ne true hjk] at hun; exact hun
   have hS' : ∀ k, S k = true → (listed.setIfInBounds j true).getD k true = false := fun k hk => by
    have hjk : j ≠ k := fun e => by rw [e, hk] at hjS; cases hjS
    rw [Go.getD_set_ne true hjk]; exact hS k hk
   refine wpOp_mono (fun a' w' h3 => ⟨h3.2.1, ih (listed.setIfInBounds j true) a' w' hS' hfree' (ready_mono hr (Ne.symm hji)) ?_ ?_⟩) h2
   ·rcases h3.1 with ⟨k1, k2⟩ | k
    ·exact .inl ⟨k1, fun w'' hw'' => k2 w'' (htr _ _ _ (hEF j oj hoj hjS _ _ h3.2.1) hw'')⟩
    ·exact .inr k
   rw [Array.setIfInBounds_comm _ _ hji]
   exact h3.2.2
end
section
variable {P : Program} {B : Bs} {V : Nat → Nat → Prop} {ops : Array Oper} {s : St'} {Q : Exit → St' → Prop} {n : Nat} {L : Array Bool}
def WS (V : Nat → Nat → Prop) (S : List Nat) : Nat → Prop := fun b => ∃ j, S.contains j = false ∧ V j b
def hangB (ops : Array Oper) (S : List Nat) (i : Nat) : Bool := S.all fun k => k == i || match ops[k]? with
 | some o => o.after.any fun e => Region.binds .any e && S.contains e.on
 | none => false
theorem VA.takeT (S : List Nat) {i : Nat} {o : Oper} {x : AV} (hS : hangB ops S i = true) (hL : (S.all fun k => !(L.getD k true)) = true) (hi : ops[i]? = some o) (hs : Region.noSelect ops = true) (hf : Region.free .any ops L i = true) (hr : (Region.ready .any ops L).contains i = true) (hg : o.guard = none) (hd : okd B.nt o.dst = true)
  (hv : OpV P B (WS V S) s o x) (h : VA P B V ops Q n (L.setIfInBounds i true) (s.put o.dst x)) : VA P B V ops Q (n + 1) L s := fun a w hR => by
 obtain ⟨v, h1, h2⟩ := hv a w hR
 refine wpAnyE_firstT (S := fun k => S.contains k) (F := Ew B (WS V S)) Ew.tr Ew.rf (fun x => Ew.rf x) (fun j oj hj hjS w w' h => h.mono fun b _ hb => hb.imp id fun hv => ⟨j, hjS, hv⟩) (fun k hk hki => ?_) hi (Region.noSelect_spec hs) n L a w (fun k hk => ?_) (Region.free_spec hi hf) (by simpa using hr) (.inl ⟨by simp [Region.wanted, hg], h1⟩) (h _ _ (hR.put _ hd _ _ h2))
 ·have hk' : k ∈ S := by simpa using hk
  have := List.all_eq_true.1 hS k hk'
  simp only [Bool.or_eq_true, beq_iff_eq] at this
  have := this.resolve_left hki
  cases ho : ops[k]? with
  | none => rw [ho] at this; cases this
  | some ok =>
   rw [ho] at this
   obtain ⟨e, he, h3⟩ := Array.any_eq_true'.1 this
   simp only [Bool.and_eq_true] at h3
   exact ⟨ok, rfl, e, he, h3.1, h3.2⟩
 ·have hk' : k ∈ S := by simpa using hk
  have := List.all_eq_true.1 hL k hk'
  simpa using this
end
end Go.Proofs.YtaaokimiadfidaaGreatDoor
namespace Go.Proofs.YtaaokimiadfidaaGreatDoor
open Go.RowKit
set_option linter.unusedVariables false
set_option linter.unusedSimpArgs false
def slW : ByteArray := ⟨#[47]⟩
def mcF (k : ByteArray) (l : List LookS) : List LookS := l.filter fun x => sEq x.machine k
def byP (l : List LookS) (k : ByteArray) : PairS := ⟨k, decB (badN (mcF k l)) ++ slW ++ decB (mcF k l).length⟩
def mcK (l : List LookS) : List ByteArray := uK (l.map fun x => x.machine)
def byM (l : List LookS) : List PairS := (mcK l).map (byP l)
theorem byM_len (l : List LookS) : (byM l).length = (mcK l).length := by simp [byM]
theorem byM_take {l : List LookS} {r : Nat} {k : ByteArray} (h : r < (mcK l).length) (hk : (mcK l).getD r ByteArray.empty = k) : (byM l).take (r + 1) = (byM l).take r ++ [byP l k] := by
 rw [List.take_succ_eq_append_getElem (by rw [byM_len]; exact h)]
 subst hk
 simp [byM, h]
theorem byM_all (l : List LookS) : (byM l).take (mcK l).length = byM l := List.take_of_length_le (by rw [byM_len]; exact Nat.le_refl _)
theorem mcK_len (l : List LookS) : (mcK l).length ≤ l.length := by have h := uK_len (l.map fun x => x.machine); rwa [List.length_map] at h
theorem mc_size {l : List LookS} (hs : SmLk l) : ∀ x ∈ l.map (fun x => x.machine), x.size ≤ 1000000 := fun x hx => by
 obtain ⟨y, hy, rfl⟩ := List.mem_map.1 hx
 obtain ⟨i, hi, rfl⟩ := List.getElem_of_mem hy
 have h2 := hs.machine i
 rw [List.getD_eq_getElem?_getD, List.getElem?_eq_getElem hi] at h2
 exact h2
theorem decB_size : ∀ i, i < 100 → (decB i).size ≤ 3 := by decide +kernel
set_option maxRecDepth 100000 in
theorem rf_ByMachineOf1 {x : LookS}  :
  SpecH Tryz.prog 127 [avT x] [] (fun y hp' => y = avS x.machine ∧ hp' = []) := by
 refine SpecH.of_VC Tryz.func127 rfl Tryz.ntmps127 (Nle rfl) fun w A hB => ?_
 have hnew : True := trivial
 refine VC.sr ?_
 refine VO.op rfl (OpE.box rfl hB rfl rfl rfl ?_)
 intro g1
 refine VO.ma rfl rfl rfl rfl ?_
 refine VO.nil ?_
 refine VC.sr ?_
 refine VO.val rfl rfl (OpV.fieldAddrO 5 rfl Tryz.underlying33 rfl rfl Tryz.sizeOf9 rfl) ?_
 refine VO.val rfl rfl (OpV.load_own (i := 0) rfl hB Tryz.isAgg9 rfl rfl rfl (fun h => h)) ?_
 refine VO.ma rfl rfl rfl rfl ?_
 refine VO.nil ?_
 refine VC.le _ (Le.drop 1) ?_
 refine VC.ret ?_
 exact Exists.intro _ (And.intro (RetV.one Tryz.results127 (ResV.tmp rfl)) (⟨rfl, rfl⟩))
set_option maxRecDepth 100000 in
theorem rf_ByMachineOf2 {x : LookS} {g : Nat} {k : ByteArray}  :
  SpecH Tryz.prog 129 [avT x, pt g] [bxS g k] (fun y hp' => y = avB (sEq x.machine k) ∧ hp' = [bxS g k]) := by
 refine SpecH.of_VC Tryz.func129 rfl Tryz.ntmps129 (Nle rfl) fun w A hB => ?_
 have hnew : True := trivial
 refine VC.sr ?_
 refine VO.op rfl (OpE.box rfl hB rfl rfl rfl ?_)
 intro g2
 refine VO.ma rfl rfl rfl rfl ?_
 refine VO.nil ?_
 refine VC.sr ?_
 refine VO.val rfl rfl (OpV.fieldAddrO 5 rfl Tryz.underlying33 rfl rfl Tryz.sizeOf9 rfl) ?_
 refine VO.val rfl rfl (OpV.load_own (i := 1) rfl hB Tryz.isAgg9 rfl rfl rfl (fun h => h)) ?_
 refine VO.val rfl rfl (OpV.load_own (i := 0) rfl hB Tryz.isAgg9 rfl rfl rfl (fun h => h)) ?_
 refine VO.val rfl rfl (OpV.seql rfl rfl rfl) ?_
 refine VO.ma rfl rfl rfl rfl ?_
 refine VO.nil ?_
 refine VC.le _ (Le.pickH [0] rfl rfl) ?_
 refine VC.ret ?_
 exact Exists.intro _ (And.intro (RetV.one Tryz.results129 (ResV.tmp rfl)) (⟨rfl, rfl⟩))
set_option maxRecDepth 100000 in
set_option maxHeartbeats 8000000 in
theorem rf_ByMachineOf {l : List LookS} (hs : SmLk l) (h100 : l.length < 100) :
  SpecN Tryz.prog 28 [avL l] (fun y => y = avL (byM l)) := by
 refine SpecN.of_VCN Tryz.func28 rfl Tryz.ntmps28 (Nle rfl) fun w A hB => ?_
 have hnew : True := trivial
 refine VC.seq ?_
 have hl := hs.len
 have hkl := mcK_len l
 refine VC.region ?_
 refine VO.ma rfl rfl rfl rfl ?_
 refine VO.nil ?_
 refine VC.sr ?_
 refine VO.ma rfl rfl rfl rfl ?_
 refine VO.nil ?_
 refine VC.seq ?_
 refine VC.sr ?_
 refine VO.mv rfl rfl rfl rfl ?_
 refine VO.op rfl (OpE.callH0 rfl hB rfl Tryz.call126 rfl rfl (rf_keys (l := l) (hpC := []) (f := fun x => x.machine) hl Tryz.call127 (fun x => rf_ByMachineOf1)) (List.Perm.refl _) (fun _ _ => trivial) ?_)
 rintro _ _ ⟨u8, rfl, rfl⟩
 refine VO.le _ (Le.rowS (t := 8) (xs := mcK l) (i := 0) hB hnew rfl rfl rfl) ?_
 refine VO.val rfl rfl (OpV.len_im rfl Tryz.underlying67 rfl) ?_
 refine VO.mv rfl rfl rfl rfl ?_
 refine VO.nil ?_
 refine VC.block ?_
 refine VC.le _ (Le.nilRow 2 57) ?_
 refine VC.loopK [(0, _), (8, _), (9, _)] ⟨rfl, rfl, rfl, trivial⟩ ({zz : Value × Nat // zz.2 ≤ (mcK l).length}) (fun (iZ : {zz : Value × Nat // zz.2 ≤ (mcK l).length}) => match iZ with | ⟨⟨u, r⟩, hq⟩ => [(3, .v u), (10, avI (r : Int))]) (fun (iZ : {zz : Value × Nat // zz.2 ≤ (mcK l).length}) => match iZ with | ⟨⟨u, r⟩, hq⟩ => [.row u r 2 (rowL ((byM l).take r)) 57]) (fun (iZ : {zz : Value × Nat // zz.2 ≤ (mcK l).length}) => match iZ with | ⟨⟨u, r⟩, hq⟩ => 0) (fun (iZ : {zz : Value × Nat // zz.2 ≤ (mcK l).length}) => match iZ with | ⟨⟨u, r⟩, hq⟩ => (mcK l).length - r) ⟨(.slice none 0 0, 0), Nat.zero_le _⟩ (Le.mk hB [0] ⟨rfl, rfl, rfl, rfl, rfl, trivial⟩ rfl rfl (Nat.le_refl _)) ?_
 rintro ⟨⟨u, r⟩, hq⟩
 show VC _ _ _ _ ⟨[(3, .v u), (10, avI (r : Int))] ++ [(0, _), (8, _), (9, _)], [.row u r 2 (rowL ((byM l).take r)) 57], 0⟩
 simp only at hq
 refine VC.sr ?_
 refine VO.val rfl rfl (OpV.lss rfl rfl rfl) ?_
 refine VO.nil ?_
 refine VC.seq ?_
 refine VC.cond rfl (fun aH1b => ?_) (fun aH1b => ?_)
 ·have aH1 := aH1b
  try simp only [qqT, qqF, qqN, qqM, qqL, qqE] at aH1
  refine VC.skip ?_
  refine VC.seq ?_
  refine VC.block ?_
  refine VC.seq ?_
  obtain ⟨k, hke⟩ : ∃ k, (mcK l).getD r ByteArray.empty = k := ⟨_, rfl⟩
  have hks : k.size ≤ 1000000 := by rw [← hke]; exact uK_size (mc_size hs) r
  have hfl : (mcF k l).length ≤ l.length := List.length_filter_le _ _
  have hfb := badN_le (mcF k l)
  have hd1 := decB_size (badN (mcF k l)) (by omega)
  have hd2 := decB_size (mcF k l).length (by omega)
  refine VC.region ?_
  refine VO.val rfl rfl (OpV.indexAddr_1 rfl Tryz.underlying67 Tryz.sizeOf9 rfl rfl rfl (by omega)) ?_
  refine VO.val rfl rfl (OpV.load_at rfl hB OutW.no Tryz.isAgg9 rfl rfl) ?_
  refine VO.le _ (Le.recast (t := 13) (y := avS k) rfl (fun w Z u h => by rw [← hke]; exact h)) ?_
  refine VO.op rfl (OpE.alloc rfl hB rfl Tryz.zeroValue9 rfl ?_)
  intro g5
  refine VO.op rfl (OpE.store (i := 1) rfl hB rfl Tryz.sizeOf9 rfl rfl rfl rfl rfl rfl (Nle rfl) trivial ?_)
  refine VO.nil ?_
  refine VC.sr ?_
  refine VO.mv rfl rfl rfl rfl ?_
  refine VO.val rfl rfl (OpV.makeFunc1 rfl rfl) ?_
  refine VO.op rfl (OpE.callH (hp := [_]) (rest := [_]) rfl hB rfl Tryz.call128 rfl rfl (rf_which (l := l) (hpC := [bxS g5 k]) (p := fun x => sEq x.machine k) hl Tryz.call129 (fun x => rf_ByMachineOf2)) (List.Perm.swap _ _ _) (fun _ _ => trivial) ?_)
  rintro _ _ ⟨u16, rfl, rfl⟩
  refine VO.le _ (Le.rowT (t := 16) (xs := mcF k l) (i := 0) hB hnew rfl rfl rfl) ?_
  refine VO.ma rfl rfl rfl rfl ?_
  refine VO.nil ?_
  refine VC.draw (fun j b => j = 12 ∧ u.ownBlock = some b) hB (by kernel_rfl) ?_
  refine VA.take (i := 0) rfl (by kernel_rfl) (by kernel_rfl) (by kernel_rfl) rfl rfl (OpV.move (.inl rfl) rfl) ?_
  refine VA.takeT [1, 10, 11, 12] (i := 1) (by kernel_rfl) (by kernel_rfl) rfl (by kernel_rfl) (by kernel_rfl) (by kernel_rfl) rfl rfl (OpV.load_own (i := 0) rfl hB Tryz.isAgg9 rfl rfl rfl (fun ⟨j, h1, h2, _⟩ => by subst h2; cases h1)) ?_
  refine VA.take (i := 2) rfl (by kernel_rfl) (by kernel_rfl) (by kernel_rfl) rfl rfl (OpV.move (.inl rfl) rfl) ?_
  refine VA.take (i := 6) rfl (by kernel_rfl) (by kernel_rfl) (by kernel_rfl) rfl rfl (OpV.move (.inl rfl) rfl) ?_
  refine VA.take (i := 7) rfl (by kernel_rfl) (by kernel_rfl) (by kernel_rfl) rfl rfl (OpV.len_im rfl Tryz.underlying26 rfl) ?_
  refine VA.all (rs := [3]) (by kernel_rfl) (by decide) ?_
  refine ⟨⟨_, rfl, .inl rfl, ?_⟩, trivial⟩
  refine OpE.call rfl hB rfl Tryz.call130 rfl (SpecN.spec (rf_bad (by omega))) ?_
  rintro _ rfl
  refine VA.all (rs := [4]) (by kernel_rfl) (by decide) ?_
  refine ⟨⟨_, rfl, .inl rfl, ?_⟩, trivial⟩
  refine OpE.call rfl hB rfl Tryz.call110 rfl (SpecN.spec (itoa_100 (by omega))) ?_
  rintro _ rfl
  refine VA.take (i := 5) rfl (by kernel_rfl) (by kernel_rfl) (by kernel_rfl) rfl rfl (OpV.sadd rfl rfl rfl (by have h : (⟨#[47]⟩ : ByteArray).size = 1 := rfl; omega)) ?_
  refine VA.all (rs := [8]) (by kernel_rfl) (by decide) ?_
  refine ⟨⟨_, rfl, .inl rfl, ?_⟩, trivial⟩
  refine OpE.call rfl hB rfl Tryz.call110 rfl (SpecN.spec (itoa_100 (by omega))) ?_
  rintro _ rfl
  refine VA.take (i := 9) rfl (by kernel_rfl) (by kernel_rfl) (by kernel_rfl) rfl rfl (OpV.sadd rfl rfl rfl (by have h : (⟨#[47]⟩ : ByteArray).size = 1 := rfl; rw [ByteArray.size_append]; omega)) ?_
  refine VA.take (i := 10) rfl (by kernel_rfl) (by kernel_rfl) (by kernel_rfl) rfl rfl (OpV.build (pls := #[(0, 1), (1, 1)]) rfl Tryz.zeroValue57 Tryz.underlying57 (fun w => by kernel_rfl) rfl rfl) ?_
  refine VA.all (rs := [11]) (by kernel_rfl) (by decide) ?_
  refine ⟨⟨_, rfl, .inl rfl, ?_⟩, trivial⟩
  refine OpE.buildSlice (zc := #[.string ⟨#[]⟩, .string ⟨#[]⟩]) rfl hB rfl Tryz.underlying34 Tryz.sizeOf57 Tryz.zeroValue57 (by decide) (by decide) (by kernel_rfl) rfl rfl ?_
  refine VA.all (rs := [12]) (by kernel_rfl) (by decide) ?_
  refine ⟨⟨_, rfl, .inl rfl, ?_⟩, trivial⟩
  refine OpE.append1 (i := 1) rfl hB rfl Tryz.underlying34 (infoOf Tryz.t57 2 (by kernel_rfl) rfl rfl) rfl (by decide) (by decide) rfl rfl rfl rfl (rowL_snoc _ (byP l k)) (by omega) (fun _ h => ⟨rfl, h⟩) ?_
  intro u29
  refine VA.take (i := 13) rfl (by kernel_rfl) (by kernel_rfl) (by kernel_rfl) rfl rfl (OpV.move (.inr rfl) rfl) ?_
  refine VA.done (by kernel_rfl) ?_
  refine VC.region ?_
  refine VO.val rfl rfl (OpV.add rfl rfl rfl (by unfold fits; omega)) ?_
  refine VO.mv rfl rfl rfl rfl ?_
  refine VO.nil ?_
  exact Exists.intro (⟨(u29, r + 1), by show _ ≤ _; omega⟩) (And.intro (Le.mk hB [1] ⟨rfl, rfl, rfl, rfl, rfl, trivial⟩ rfl (by dsimp only; rw [byM_take (by omega) hke]; rfl) (Nat.le_refl _)) (by first | omega | (show _ < _; omega) | (simp only []; omega)))
 ·have aH1 := aH1b
  try simp only [qqT, qqF, qqN, qqM, qqL, qqE] at aH1
  obtain rfl : r = (mcK l).length := by omega
  rw [byM_all]
  refine VC.exit ?_
  refine VC.sr ?_
  refine VO.mv rfl rfl rfl rfl ?_
  refine VO.ma rfl rfl rfl rfl ?_
  refine VO.nil ?_
  refine VC.ret ?_
  exact Exists.intro _ (And.intro (RetN.one Tryz.results28 (ResN.rowT (i := 0) (xs := byM l) rfl rfl (byM_len l).symm (flat_pairs _))) (rfl))
end Go.Proofs.YtaaokimiadfidaaGreatDoor
namespace Go.Proofs.YtaaokimiadfidaaGreatDoor
open Go.RowKit
set_option linter.unusedVariables false
set_option linter.unusedSimpArgs false
abbrev mcV (l : List LookS) : List (ByteArray × Bool) := kvs (fun x => [x.machine]) l
theorem mc_keys (l : List LookS) : sKeys (shM (mcV l)) = mcK l := by rw [sKeys_shM, kvs_one_keys]; rfl
theorem mc_get (l : List LookS) (k : ByteArray) : mgetD (shM (mcV l)) k (0, 0) = (badN (mcF k l), (mcF k l).length) := by
 rw [shM_get, kvs_one]
 have : (fun x : LookS => sEq x.machine k) = fun x => decide (x.machine = k) := funext fun x => sEq_dec _ _
 unfold mcF
 rw [this]
theorem mc_vlen (l : List LookS) : (shM (mcV l)).length ≤ l.length := by
 have h := shM_len (mcV l)
 have h2 : (mcV l).length = l.length := by have := congrArg List.length (kvs_one_keys (fun x => x.machine) l); simpa using this
 omega
theorem mc_small {l : List LookS} (hs : SmLk l) : ∀ p ∈ shM (mcV l), p.1.size ≤ maxLen := fun p hp => by
 have h1 : p.1 ∈ (shM (mcV l)).map (·.1) := List.mem_map.2 ⟨p, hp, rfl⟩
 rw [shM_mem, kvs_one_keys] at h1
 have := mc_size hs _ h1
 unfold maxLen; omega
set_option maxRecDepth 100000 in
theorem inspect_ByMachine1 {x : LookS}  :
  Spec Tryz.prog 107 [avT x] (fun y => y = avStrs [x.machine]) := by
 refine Spec.of_VC Tryz.func107 rfl Tryz.ntmps107 (Nle rfl) fun w A hB => ?_
 have hnew : True := trivial
 refine VC.sr ?_
 refine VO.op rfl (OpE.box rfl hB rfl rfl rfl ?_)
 intro g1
 refine VO.ma rfl rfl rfl rfl ?_
 refine VO.nil ?_
 refine VC.sr ?_
 refine VO.val rfl rfl (OpV.fieldAddrO 5 rfl Tryz.underlying33 rfl rfl Tryz.sizeOf9 rfl) ?_
 refine VO.val rfl rfl (OpV.load_own (i := 0) rfl hB Tryz.isAgg9 rfl rfl rfl (fun h => h)) ?_
 refine VO.op rfl (OpE.buildSlice (zc := #[.string ⟨#[]⟩]) rfl hB rfl Tryz.underlying67 Tryz.sizeOf9 Tryz.zeroValue9 (by decide) (by decide) (by kernel_rfl) rfl rfl ?_)
 refine VO.le _ (Le.litsS (t := 5) (xs := [x.machine]) rfl rfl) ?_
 refine VO.ma rfl rfl rfl rfl ?_
 refine VO.nil ?_
 refine VC.ret ?_
 exact Exists.intro _ (And.intro (RetV.one Tryz.results107 (ResV.tmp rfl)) (rfl))
set_option maxRecDepth 100000 in
set_option maxHeartbeats 8000000 in
theorem inspect_ByMachine {l : List LookS} (hs : SmLk l) (h100 : l.length < 100) :
  SpecN Tryz.prog 18 [avL l] (fun y => y = .tup [avL (if lookF l = 0 then byM l else []), avI (lookF l)]) := by
 refine SpecN.of_VCN Tryz.func18 rfl Tryz.ntmps18 (Nle rfl) fun w A hB => ?_
 have hnew : True := trivial
 refine VC.seq ?_
 have hl := hs.len
 have hkl := mcK_len l
 have hvl := mc_vlen l
 refine VC.region ?_
 refine VO.ma rfl rfl rfl rfl ?_
 refine VO.ma rfl rfl rfl rfl ?_
 refine VO.nil ?_
 refine VC.seq ?_
 refine VC.sr ?_
 refine VO.mv rfl rfl rfl rfl ?_
 refine VO.op rfl (OpE.call rfl hB rfl Tryz.call105 rfl (SpecN.spec (inspect_CheckLooks hs)) ?_)
 rintro _ rfl
 refine VO.ma rfl rfl rfl rfl ?_
 refine VO.nil ?_
 refine VC.sr ?_
 refine VO.mv rfl rfl rfl rfl ?_
 refine VO.val rfl rfl (OpV.neq rfl rfl rfl) ?_
 refine VO.nil ?_
 refine VC.cond rfl (fun h0b => ?_) (fun h0b => ?_)
 ·have h0 := h0b
  try simp only [qqT, qqF, qqN, qqM, qqL, qqE] at h0
  refine VC.sr ?_
  refine VO.mv rfl rfl rfl rfl ?_
  refine VO.ma rfl rfl rfl rfl ?_
  refine VO.ma rfl rfl rfl rfl ?_
  refine VO.nil ?_
  refine VC.ret ?_
  exact Exists.intro _ (And.intro (RetN.two Tryz.results18 (ResN.nilE rfl) (ResN.v rfl)) (by rw [if_neg h0]; rfl))
 ·have h0 := h0b
  try simp only [qqT, qqF, qqN, qqM, qqL, qqE] at h0
  refine VC.skip ?_
  refine VC.sr ?_
  refine VO.mv rfl rfl rfl rfl ?_
  refine VO.op rfl (OpE.callH (hp := []) (rest := _) rfl hB rfl Tryz.call106 rfl rfl (inspect_shares (f := fun x => [x.machine]) hl Tryz.call107 (fun i => inspect_ByMachine1) (fun i => by simp)) (List.Perm.refl _) (fun _ h => by obtain ⟨e, he, _⟩ := h; cases he) ?_)
  rintro _ _ ⟨gm, rfl, rfl⟩
  refine VO.ma rfl rfl rfl rfl ?_
  refine VO.nil ?_
  refine VC.sr ?_
  refine VO.ma rfl rfl rfl rfl ?_
  refine VO.nil ?_
  refine VC.seq ?_
  refine VC.sr ?_
  refine VO.mv rfl rfl rfl rfl ?_
  refine VO.op rfl (OpE.callH rfl hB rfl Tryz.call109 rfl rfl (maps_Keys_sh (some gm)) (List.Perm.refl _) (fun _ _ => trivial) ?_)
  rintro _ _ ⟨g18, rfl, rfl⟩
  refine VO.op rfl (OpE.callH0 rfl hB rfl Tryz.call108 rfl rfl (slices_Sorted_sh (l := shM (mcV l)) (E := eSh) (shM_nodup _) (mc_small hs) (by omega)) (List.Perm.refl _) (fun _ _ => trivial) ?_)
  rintro _ _ ⟨u19, rfl, rfl⟩
  refine VO.le _ (Le.rowS (t := 19) (i := 0) hB hnew rfl rfl (sKeys_len _).symm) ?_
  refine VO.le _ (Le.recast (t := 19) (y := avStrs (mcK l)) rfl (fun w Z u h => by rw [← mc_keys]; exact h)) ?_
  refine VO.val rfl rfl (OpV.len_im rfl Tryz.underlying67 rfl) ?_
  refine VO.mv rfl rfl rfl rfl ?_
  refine VO.nil ?_
  refine VC.block ?_
  refine VC.le _ (Le.nilRow 2 57) ?_
  refine VC.loopK [(5, _), (19, _), (20, _)] ⟨rfl, rfl, rfl, trivial⟩ ({zz : Value × Nat // zz.2 ≤ (mcK l).length}) (fun (iZ : {zz : Value × Nat // zz.2 ≤ (mcK l).length}) => match iZ with | ⟨⟨u, r⟩, hq⟩ => [(6, .v u), (21, avI (r : Int))]) (fun (iZ : {zz : Value × Nat // zz.2 ≤ (mcK l).length}) => match iZ with | ⟨⟨u, r⟩, hq⟩ => [mapE kvS gm eSh (shM (mcV l)), .row u r 2 (rowL ((byM l).take r)) 57]) (fun (iZ : {zz : Value × Nat // zz.2 ≤ (mcK l).length}) => match iZ with | ⟨⟨u, r⟩, hq⟩ => 0) (fun (iZ : {zz : Value × Nat // zz.2 ≤ (mcK l).length}) => match iZ with | ⟨⟨u, r⟩, hq⟩ => (mcK l).length - r) ⟨(.slice none 0 0, 0), Nat.zero_le _⟩ (Le.mk hB [1, 2] ⟨rfl, rfl, rfl, rfl, rfl, trivial⟩ rfl rfl (Nat.le_refl _)) ?_
  rintro ⟨⟨u, r⟩, hq⟩
  show VC _ _ _ _ ⟨[(6, .v u), (21, avI (r : Int))] ++ [(5, _), (19, _), (20, _)], [mapE kvS gm eSh (shM (mcV l)), .row u r 2 (rowL ((byM l).take r)) 57], 0⟩
  simp only at hq
  refine VC.sr ?_
  refine VO.val rfl rfl (OpV.lss rfl rfl rfl) ?_
  refine VO.nil ?_
  refine VC.seq ?_
  refine VC.cond rfl (fun aH1b => ?_) (fun aH1b => ?_)
  ·have aH1 := aH1b
   try simp only [qqT, qqF, qqN, qqM, qqL, qqE] at aH1
   refine VC.skip ?_
   refine VC.seq ?_
   refine VC.block ?_
   refine VC.seq ?_
   obtain ⟨k, hke⟩ : ∃ k, (mcK l).getD r ByteArray.empty = k := ⟨_, rfl⟩
   have hks : k.size ≤ 1000000 := by rw [← hke]; exact uK_size (mc_size hs) r
   have hfl : (mcF k l).length ≤ l.length := List.length_filter_le _ _
   have hfb := badN_le (mcF k l)
   have hd1 := decB_size (badN (mcF k l)) (by omega)
   have hd2 := decB_size (mcF k l).length (by omega)
   refine VC.region ?_
   refine VO.val rfl rfl (OpV.indexAddr_1 rfl Tryz.underlying67 Tryz.sizeOf9 rfl rfl rfl (by omega)) ?_
   refine VO.val rfl rfl (OpV.load_at rfl hB OutW.no Tryz.isAgg9 rfl rfl) ?_
   refine VO.le _ (Le.recast (t := 24) (y := avS k) rfl (fun w Z u h => by rw [← hke]; exact h)) ?_
   refine VO.ma rfl rfl rfl rfl ?_
   refine VO.nil ?_
   refine VC.sr ?_
   refine VO.mv rfl rfl rfl rfl ?_
   refine VO.mv rfl rfl rfl rfl ?_
   refine VO.val rfl rfl (OpV.lookup_own (i := 0) rfl hB Tryz.underlying154 (KeyOk.str Tryz.underlying9) Tryz.zeroValue162 rfl (KeyE.v rfl) rfl (fun h => h)) ?_
   refine VO.le _ (Le.recast (t := 27) (y := eSh (badN (mcF k l), (mcF k l).length)) rfl (fun w Z u h => by rw [← mc_get]; unfold mgetD; revert h; cases mget (shM (mcV l)) k with | none => intro h; rw [h.eq_v]; exact sh_zero | some x => exact id)) ?_
   refine VO.op rfl (OpE.alloc rfl hB rfl Tryz.zeroValue162 rfl ?_)
   intro g9
   refine VO.op rfl (OpE.store (i := 2) rfl hB rfl Tryz.sizeOf162 rfl rfl rfl rfl rfl rfl (Nle rfl) trivial ?_)
   refine VO.nil ?_
   refine VC.draw (fun j b => j = 12 ∧ u.ownBlock = some b) hB (by kernel_rfl) ?_
   refine VA.take (i := 0) rfl (by kernel_rfl) (by kernel_rfl) (by kernel_rfl) rfl rfl (OpV.move (.inl rfl) rfl) ?_
   refine VA.take (i := 1) rfl (by kernel_rfl) (by kernel_rfl) (by kernel_rfl) rfl rfl (OpV.move (.inl rfl) rfl) ?_
   refine VA.take (i := 2) rfl (by kernel_rfl) (by kernel_rfl) (by kernel_rfl) rfl rfl (OpV.fieldAddrO 0 rfl Tryz.underlying162 rfl rfl Tryz.sizeOf3 rfl) ?_
   refine VA.takeT [3, 4, 5, 9, 10, 11, 12] (i := 3) (by kernel_rfl) (by kernel_rfl) rfl (by kernel_rfl) (by kernel_rfl) (by kernel_rfl) rfl rfl (OpV.load_own (i := 2) rfl hB Tryz.isAgg3 rfl rfl rfl (fun ⟨j, h1, h2, _⟩ => by subst h2; cases h1)) ?_
   refine VA.take (i := 6) rfl (by kernel_rfl) (by kernel_rfl) (by kernel_rfl) rfl rfl (OpV.fieldAddrO 1 rfl Tryz.underlying162 rfl rfl Tryz.sizeOf3 rfl) ?_
   refine VA.takeT [7, 8, 9, 10, 11, 12] (i := 7) (by kernel_rfl) (by kernel_rfl) rfl (by kernel_rfl) (by kernel_rfl) (by kernel_rfl) rfl rfl (OpV.load_own (i := 2) rfl hB Tryz.isAgg3 rfl rfl rfl (fun ⟨j, h1, h2, _⟩ => by subst h2; cases h1)) ?_
   refine VA.all (rs := [4]) (by kernel_rfl) (by decide) ?_
   refine ⟨⟨_, rfl, .inl rfl, ?_⟩, trivial⟩
   refine OpE.call rfl hB rfl Tryz.call110 rfl (SpecN.spec (itoa_100 (i := badN (mcF k l)) (by omega))) ?_
   rintro _ rfl
   refine VA.take (i := 5) rfl (by kernel_rfl) (by kernel_rfl) (by kernel_rfl) rfl rfl (OpV.sadd rfl rfl rfl (by have h : (⟨#[47]⟩ : ByteArray).size = 1 := rfl; omega)) ?_
   refine VA.all (rs := [8]) (by kernel_rfl) (by decide) ?_
   refine ⟨⟨_, rfl, .inl rfl, ?_⟩, trivial⟩
   refine OpE.call rfl hB rfl Tryz.call110 rfl (SpecN.spec (itoa_100 (i := (mcF k l).length) (by omega))) ?_
   rintro _ rfl
   refine VA.take (i := 9) rfl (by kernel_rfl) (by kernel_rfl) (by kernel_rfl) rfl rfl (OpV.sadd rfl rfl rfl (by have h : (⟨#[47]⟩ : ByteArray).size = 1 := rfl; rw [ByteArray.size_append]; omega)) ?_
   refine VA.take (i := 10) rfl (by kernel_rfl) (by kernel_rfl) (by kernel_rfl) rfl rfl (OpV.build (pls := #[(0, 1), (1, 1)]) rfl Tryz.zeroValue57 Tryz.underlying57 (fun w => by kernel_rfl) rfl rfl) ?_
   refine VA.all (rs := [11]) (by kernel_rfl) (by decide) ?_
   refine ⟨⟨_, rfl, .inl rfl, ?_⟩, trivial⟩
   refine OpE.buildSlice (zc := #[.string ⟨#[]⟩, .string ⟨#[]⟩]) rfl hB rfl Tryz.underlying34 Tryz.sizeOf57 Tryz.zeroValue57 (by decide) (by decide) (by kernel_rfl) rfl rfl ?_
   refine VA.all (rs := [12]) (by kernel_rfl) (by decide) ?_
   refine ⟨⟨_, rfl, .inl rfl, ?_⟩, trivial⟩
   refine OpE.append1 (i := 1) rfl hB rfl Tryz.underlying34 (infoOf Tryz.t57 2 (by kernel_rfl) rfl rfl) rfl (by decide) (by decide) rfl rfl rfl rfl (rowL_snoc _ (byP l k)) (by omega) (fun _ h => ⟨rfl, h⟩) ?_
   intro u40
   refine VA.take (i := 13) rfl (by kernel_rfl) (by kernel_rfl) (by kernel_rfl) rfl rfl (OpV.move (.inr rfl) rfl) ?_
   refine VA.done (by kernel_rfl) ?_
   refine VC.region ?_
   refine VO.val rfl rfl (OpV.add rfl rfl rfl (by unfold fits; omega)) ?_
   refine VO.mv rfl rfl rfl rfl ?_
   refine VO.nil ?_
   exact Exists.intro (⟨(u40, r + 1), by show _ ≤ _; omega⟩) (And.intro (Le.mk hB [0, 1] ⟨rfl, rfl, rfl, rfl, rfl, trivial⟩ rfl (by dsimp only; rw [byM_take (by omega) hke]; rfl) (Nat.le_refl _)) (by first | omega | (show _ < _; omega) | (simp only []; omega)))
  ·have aH1 := aH1b
   try simp only [qqT, qqF, qqN, qqM, qqL, qqE] at aH1
   obtain rfl : r = (mcK l).length := by omega
   rw [byM_all]
   refine VC.exit ?_
   refine VC.sr ?_
   refine VO.mv rfl rfl rfl rfl ?_
   refine VO.ma rfl rfl rfl rfl ?_
   refine VO.ma rfl rfl rfl rfl ?_
   refine VO.nil ?_
   refine VC.ret ?_
   exact Exists.intro _ (And.intro (RetN.two Tryz.results18 (ResN.rowT (i := 1) (xs := byM l) rfl rfl (byM_len l).symm (flat_pairs _)) (ResN.v rfl)) (by rw [if_pos (by omega), show lookF l = 0 by omega]))
end Go.Proofs.YtaaokimiadfidaaGreatDoor
namespace Go.Proofs.YtaaokimiadfidaaGreatDoor
open Go.RowKit
set_option linter.unusedVariables false
set_option linter.unusedSimpArgs false
abbrev bxI (g : Nat) (n : Int) : Ent := .box g ⟨[avI n], 3, 1⟩
abbrev pBef (s : Int) (r : ByteArray) (x : LookS) : Bool := sEq x.reel r && decide (x.at_ < s)
abbrev pBeh (s : Int) (r : ByteArray) (x : LookS) : Bool := sEq x.reel r && decide (s ≤ x.at_)
def wBef (l : List LookS) (s : Int) (r : ByteArray) : List LookS := l.filter (pBef s r)
def wBeh (l : List LookS) (s : Int) (r : ByteArray) : List LookS := l.filter (pBeh s r)
def worF (l : List LookS) (s : Int) (r : ByteArray) : Bool := decide (0 < (wBef l s r).length) && (decide (0 < (wBeh l s r).length) && decide (badN (wBef l s r) * (wBeh l s r).length < badN (wBeh l s r) * (wBef l s r).length))
theorem worF_1 {l : List LookS} {s : Int} {r : ByteArray} (h : ¬ (0 : Int) < (wBef l s r).length) : worF l s r = false := by
 have : ¬ 0 < (wBef l s r).length := by omega
 simp [worF, this]
theorem worF_2 {l : List LookS} {s : Int} {r : ByteArray} (h : ¬ (0 : Int) < (wBeh l s r).length) : worF l s r = false := by
 have : ¬ 0 < (wBeh l s r).length := by omega
 simp [worF, this]
theorem worF_3 {l : List LookS} {s : Int} {r : ByteArray} (h1 : (0 : Int) < (wBef l s r).length) (h2 : (0 : Int) < (wBeh l s r).length) : worF l s r = decide ((badN (wBef l s r) : Int) * (wBeh l s r).length < (badN (wBeh l s r) : Int) * (wBef l s r).length) := by
 have h3 : 0 < (wBef l s r).length := by omega
 have h4 : 0 < (wBeh l s r).length := by omega
 unfold worF
 rw [decide_eq_true h3, decide_eq_true h4, Bool.true_and, Bool.true_and]
 apply decide_eq_decide.2
 exact_mod_cast Iff.rfl
set_option maxRecDepth 100000 in
theorem rf_WorseOf1 {x : LookS} {gs gr : Nat} {s : Int} {r : ByteArray}  :
  SpecH Tryz.prog 134 [avT x, pt gr, pt gs] [bxI gs s, bxS gr r] (fun y hp' => y = avB (pBef s r x) ∧ hp' = [bxI gs s, bxS gr r]) := by
 refine SpecH.of_VC Tryz.func134 rfl Tryz.ntmps134 (Nle rfl) fun w A hB => ?_
 have hnew : True := trivial
 refine VC.sr ?_
 refine VO.op rfl (OpE.box rfl hB rfl rfl rfl ?_)
 intro g3
 refine VO.ma rfl rfl rfl rfl ?_
 refine VO.nil ?_
 refine VC.sr ?_
 refine VO.val rfl rfl (OpV.fieldAddrO 7 rfl Tryz.underlying33 rfl rfl Tryz.sizeOf9 rfl) ?_
 refine VO.val rfl rfl (OpV.load_own (i := 2) rfl hB Tryz.isAgg9 rfl rfl rfl (fun h => h)) ?_
 refine VO.val rfl rfl (OpV.load_own (i := 1) rfl hB Tryz.isAgg9 rfl rfl rfl (fun h => h)) ?_
 refine VO.val rfl rfl (OpV.seql rfl rfl rfl) ?_
 refine VO.mv rfl rfl rfl rfl ?_
 refine VO.opG rfl rfl rfl rfl (fun aK1b => ?_) (fun aK1b => ?_)
 ·replace aK1b : _ = true := aK1b
  have aK1 := aK1b
  try simp only [qqT, qqF, qqN, qqM, qqL, qqE] at aK1
  refine OpE.val (W := NoB) (OpV.fieldAddrO 2 rfl Tryz.underlying33 rfl rfl Tryz.sizeOf3 rfl) rfl ?_
  refine VO.opY rfl rfl rfl rfl aK1b ?_
  refine OpE.val (W := NoB) (OpV.load_own (i := 2) rfl hB Tryz.isAgg3 rfl rfl rfl (fun h => h)) rfl ?_
  refine VO.opY rfl rfl rfl rfl aK1b ?_
  refine OpE.val (W := NoB) (OpV.load_own (i := 0) rfl hB Tryz.isAgg3 rfl rfl rfl (fun h => h)) rfl ?_
  refine VO.opY rfl rfl rfl rfl aK1b ?_
  refine OpE.val (W := NoB) (OpV.lss rfl rfl rfl) rfl ?_
  refine VO.val rfl rfl (OpV.pickT rfl rfl rfl rfl aK1b) ?_
  refine VO.ma rfl rfl rfl rfl ?_
  refine VO.nil ?_
  refine VC.le _ (Le.pickH [0, 1] rfl rfl) ?_
  refine VC.ret ?_
  exact Exists.intro _ (And.intro (RetV.one Tryz.results134 (ResV.tmp rfl)) (⟨congrArg avB (by simp_all [pBef]), rfl⟩))
 ·replace aK1b : _ = false := aK1b
  have aK1 := aK1b
  try simp only [qqT, qqF, qqN, qqM, qqL, qqE] at aK1
  refine VO.opX rfl rfl rfl rfl aK1b ?_
  refine VO.opX rfl rfl rfl rfl aK1b ?_
  refine VO.opX rfl rfl rfl rfl aK1b ?_
  refine VO.val rfl rfl (OpV.pickF rfl rfl rfl rfl aK1b) ?_
  refine VO.ma rfl rfl rfl rfl ?_
  refine VO.nil ?_
  refine VC.le _ (Le.pickH [0, 1] rfl rfl) ?_
  refine VC.ret ?_
  exact Exists.intro _ (And.intro (RetV.one Tryz.results134 (ResV.tmp rfl)) (⟨congrArg avB (by simp_all [pBef]), rfl⟩))
set_option maxRecDepth 100000 in
theorem rf_WorseOf2 {x : LookS} {gs gr : Nat} {s : Int} {r : ByteArray}  :
  SpecH Tryz.prog 135 [avT x, pt gr, pt gs] [bxI gs s, bxS gr r] (fun y hp' => y = avB (pBeh s r x) ∧ hp' = [bxI gs s, bxS gr r]) := by
 refine SpecH.of_VC Tryz.func135 rfl Tryz.ntmps135 (Nle rfl) fun w A hB => ?_
 have hnew : True := trivial
 refine VC.sr ?_
 refine VO.op rfl (OpE.box rfl hB rfl rfl rfl ?_)
 intro g3
 refine VO.ma rfl rfl rfl rfl ?_
 refine VO.nil ?_
 refine VC.sr ?_
 refine VO.val rfl rfl (OpV.fieldAddrO 7 rfl Tryz.underlying33 rfl rfl Tryz.sizeOf9 rfl) ?_
 refine VO.val rfl rfl (OpV.load_own (i := 2) rfl hB Tryz.isAgg9 rfl rfl rfl (fun h => h)) ?_
 refine VO.val rfl rfl (OpV.load_own (i := 1) rfl hB Tryz.isAgg9 rfl rfl rfl (fun h => h)) ?_
 refine VO.val rfl rfl (OpV.seql rfl rfl rfl) ?_
 refine VO.mv rfl rfl rfl rfl ?_
 refine VO.opG rfl rfl rfl rfl (fun aK1b => ?_) (fun aK1b => ?_)
 ·replace aK1b : _ = true := aK1b
  have aK1 := aK1b
  try simp only [qqT, qqF, qqN, qqM, qqL, qqE] at aK1
  refine OpE.val (W := NoB) (OpV.fieldAddrO 2 rfl Tryz.underlying33 rfl rfl Tryz.sizeOf3 rfl) rfl ?_
  refine VO.opY rfl rfl rfl rfl aK1b ?_
  refine OpE.val (W := NoB) (OpV.load_own (i := 2) rfl hB Tryz.isAgg3 rfl rfl rfl (fun h => h)) rfl ?_
  refine VO.opY rfl rfl rfl rfl aK1b ?_
  refine OpE.val (W := NoB) (OpV.load_own (i := 0) rfl hB Tryz.isAgg3 rfl rfl rfl (fun h => h)) rfl ?_
  refine VO.opY rfl rfl rfl rfl aK1b ?_
  refine OpE.val (W := NoB) (OpV.geq rfl rfl rfl) rfl ?_
  refine VO.val rfl rfl (OpV.pickT rfl rfl rfl rfl aK1b) ?_
  refine VO.ma rfl rfl rfl rfl ?_
  refine VO.nil ?_
  refine VC.le _ (Le.pickH [0, 1] rfl rfl) ?_
  refine VC.ret ?_
  exact Exists.intro _ (And.intro (RetV.one Tryz.results135 (ResV.tmp rfl)) (⟨congrArg avB (by simp_all [pBeh]), rfl⟩))
 ·replace aK1b : _ = false := aK1b
  have aK1 := aK1b
  try simp only [qqT, qqF, qqN, qqM, qqL, qqE] at aK1
  refine VO.opX rfl rfl rfl rfl aK1b ?_
  refine VO.opX rfl rfl rfl rfl aK1b ?_
  refine VO.opX rfl rfl rfl rfl aK1b ?_
  refine VO.val rfl rfl (OpV.pickF rfl rfl rfl rfl aK1b) ?_
  refine VO.ma rfl rfl rfl rfl ?_
  refine VO.nil ?_
  refine VC.le _ (Le.pickH [0, 1] rfl rfl) ?_
  refine VC.ret ?_
  exact Exists.intro _ (And.intro (RetV.one Tryz.results135 (ResV.tmp rfl)) (⟨congrArg avB (by simp_all [pBeh]), rfl⟩))
set_option maxRecDepth 100000 in
set_option maxHeartbeats 4000000 in
theorem rf_WorseOf {l : List LookS} {s : Int} {r : ByteArray} (hs : SmLk l) :
  SpecN Tryz.prog 30 [avL l, avI s, avS r] (fun y => y = avB (worF l s r)) := by
 refine SpecN.of_VCN Tryz.func30 rfl Tryz.ntmps30 (Nle rfl) fun w A hB => ?_
 have hnew : True := trivial
 refine VC.seq ?_
 have hl := hs.len
 have hb1 := badN_le (wBef l s r)
 have hb2 := badN_le (wBeh l s r)
 have hl1 : (wBef l s r).length ≤ l.length := List.length_filter_le _ _
 have hl2 : (wBeh l s r).length ≤ l.length := List.length_filter_le _ _
 refine VC.region ?_
 refine VO.op rfl (OpE.box rfl hB rfl rfl rfl ?_)
 intro gs
 refine VO.op rfl (OpE.box rfl hB rfl rfl rfl ?_)
 intro gr
 refine VO.ma rfl rfl rfl rfl ?_
 refine VO.nil ?_
 refine VC.sr ?_
 refine VO.mv rfl rfl rfl rfl ?_
 refine VO.val rfl rfl (OpV.makeFunc2 rfl rfl rfl) ?_
 refine VO.op rfl (OpE.callH0 rfl hB rfl Tryz.call128 rfl rfl (rf_which (l := l) (hpC := [bxI gs s, bxS gr r]) (p := pBef s r) hl Tryz.call134 (fun x => rf_WorseOf1)) (List.Perm.refl _) (fun _ _ => trivial) ?_)
 rintro _ _ ⟨u11, rfl, rfl⟩
 refine VO.le _ (Le.rowT (t := 11) (xs := wBef l s r) (i := 0) hB hnew rfl rfl rfl) ?_
 refine VO.ma rfl rfl rfl rfl ?_
 refine VO.nil ?_
 refine VC.sr ?_
 refine VO.mv rfl rfl rfl rfl ?_
 refine VO.val rfl rfl (OpV.makeFunc2 rfl rfl rfl) ?_
 refine VO.op rfl (OpE.callH0 rfl hB rfl Tryz.call128 rfl rfl (rf_which (l := l) (hpC := [bxI gs s, bxS gr r]) (p := pBeh s r) hl Tryz.call135 (fun x => rf_WorseOf2)) (List.Perm.refl _) (fun _ _ => trivial) ?_)
 rintro _ _ ⟨u14, rfl, rfl⟩
 refine VO.le _ (Le.rowT (t := 14) (xs := wBeh l s r) (i := 0) hB hnew rfl rfl rfl) ?_
 refine VO.ma rfl rfl rfl rfl ?_
 refine VO.nil ?_
 refine VC.sr ?_
 refine VO.mv rfl rfl rfl rfl ?_
 refine VO.val rfl rfl (OpV.len_im rfl Tryz.underlying26 rfl) ?_
 refine VO.val rfl rfl (OpV.gtr rfl rfl rfl) ?_
 refine VO.mv rfl rfl rfl rfl ?_
 refine VO.opG rfl rfl rfl rfl (fun aK1b => ?_) (fun aK1b => ?_)
 ·replace aK1b : _ = true := aK1b
  have aK1 := aK1b
  try simp only [qqT, qqF, qqN, qqM, qqL, qqE] at aK1
  refine OpE.val (W := NoB) (OpV.move (.inl rfl) rfl) rfl ?_
  refine VO.opY rfl rfl rfl rfl aK1b ?_
  refine OpE.val (W := NoB) (OpV.len_im rfl Tryz.underlying26 rfl) rfl ?_
  refine VO.opY rfl rfl rfl rfl aK1b ?_
  refine OpE.val (W := NoB) (OpV.gtr rfl rfl rfl) rfl ?_
  refine VO.val rfl rfl (OpV.pickT rfl rfl rfl rfl aK1b) ?_
  refine VO.mv rfl rfl rfl rfl ?_
  refine VO.opG rfl rfl rfl rfl (fun aK2b => ?_) (fun aK2b => ?_)
  ·replace aK2b : _ = true := aK2b
   have aK2 := aK2b
   try simp only [qqT, qqF, qqN, qqM, qqL, qqE] at aK2
   refine OpE.val (W := NoB) (OpV.move (.inl rfl) rfl) rfl ?_
   refine VO.opY rfl rfl rfl rfl aK2b ?_
   refine OpE.call rfl hB rfl Tryz.call130 rfl (SpecN.spec (rf_bad (by omega))) ?_
   rintro _ rfl
   refine VO.opY rfl rfl rfl rfl aK2b ?_
   refine OpE.val (W := NoB) (OpV.move (.inl rfl) rfl) rfl ?_
   refine VO.opY rfl rfl rfl rfl aK2b ?_
   refine OpE.val (W := NoB) (OpV.len_im rfl Tryz.underlying26 rfl) rfl ?_
   refine VO.opY rfl rfl rfl rfl aK2b ?_
   refine OpE.val (W := NoB) (OpV.mul rfl rfl rfl (by have h := prodB (a := badN (wBeh l s r)) (b := (wBef l s r).length) (by omega) (by omega); unfold fits; omega)) rfl ?_
   refine VO.opY rfl rfl rfl rfl aK2b ?_
   refine OpE.val (W := NoB) (OpV.move (.inl rfl) rfl) rfl ?_
   refine VO.opY rfl rfl rfl rfl aK2b ?_
   refine OpE.call rfl hB rfl Tryz.call130 rfl (SpecN.spec (rf_bad (by omega))) ?_
   rintro _ rfl
   refine VO.opY rfl rfl rfl rfl aK2b ?_
   refine OpE.val (W := NoB) (OpV.move (.inl rfl) rfl) rfl ?_
   refine VO.opY rfl rfl rfl rfl aK2b ?_
   refine OpE.val (W := NoB) (OpV.len_im rfl Tryz.underlying26 rfl) rfl ?_
   refine VO.opY rfl rfl rfl rfl aK2b ?_
   refine OpE.val (W := NoB) (OpV.mul rfl rfl rfl (by have h := prodB (a := badN (wBef l s r)) (b := (wBeh l s r).length) (by omega) (by omega); unfold fits; omega)) rfl ?_
   refine VO.opY rfl rfl rfl rfl aK2b ?_
   refine OpE.val (W := NoB) (OpV.gtr rfl rfl rfl) rfl ?_
   refine VO.val rfl rfl (OpV.pickT rfl rfl rfl rfl aK2b) ?_
   refine VO.ma rfl rfl rfl rfl ?_
   refine VO.nil ?_
   refine VC.ret ?_
   exact Exists.intro _ (And.intro (RetN.one Tryz.results30 (ResN.v rfl)) (by first | rw [worF_1 (by omega)] | rw [worF_2 (by omega)] | rw [worF_3 (by omega) (by omega)]))
  ·replace aK2b : _ = false := aK2b
   have aK2 := aK2b
   try simp only [qqT, qqF, qqN, qqM, qqL, qqE] at aK2
   refine VO.opX rfl rfl rfl rfl aK2b ?_
   refine VO.opX rfl rfl rfl rfl aK2b ?_
   refine VO.opX rfl rfl rfl rfl aK2b ?_
   refine VO.opX rfl rfl rfl rfl aK2b ?_
   refine VO.opX rfl rfl rfl rfl aK2b ?_
   refine VO.opX rfl rfl rfl rfl aK2b ?_
   refine VO.opX rfl rfl rfl rfl aK2b ?_
   refine VO.opX rfl rfl rfl rfl aK2b ?_
   refine VO.opX rfl rfl rfl rfl aK2b ?_
   refine VO.opX rfl rfl rfl rfl aK2b ?_
   refine VO.val rfl rfl (OpV.pickF rfl rfl rfl rfl aK2b) ?_
   refine VO.ma rfl rfl rfl rfl ?_
   refine VO.nil ?_
   refine VC.ret ?_
   exact Exists.intro _ (And.intro (RetN.one Tryz.results30 (ResN.v rfl)) (by first | rw [worF_1 (by omega)] | rw [worF_2 (by omega)] | rw [worF_3 (by omega) (by omega)]))
 ·replace aK1b : _ = false := aK1b
  have aK1 := aK1b
  try simp only [qqT, qqF, qqN, qqM, qqL, qqE] at aK1
  refine VO.opX rfl rfl rfl rfl aK1b ?_
  refine VO.opX rfl rfl rfl rfl aK1b ?_
  refine VO.val rfl rfl (OpV.pickF rfl rfl rfl rfl aK1b) ?_
  refine VO.mv rfl rfl rfl rfl ?_
  refine VO.opX rfl rfl rfl rfl rfl ?_
  refine VO.opX rfl rfl rfl rfl rfl ?_
  refine VO.opX rfl rfl rfl rfl rfl ?_
  refine VO.opX rfl rfl rfl rfl rfl ?_
  refine VO.opX rfl rfl rfl rfl rfl ?_
  refine VO.opX rfl rfl rfl rfl rfl ?_
  refine VO.opX rfl rfl rfl rfl rfl ?_
  refine VO.opX rfl rfl rfl rfl rfl ?_
  refine VO.opX rfl rfl rfl rfl rfl ?_
  refine VO.opX rfl rfl rfl rfl rfl ?_
  refine VO.opX rfl rfl rfl rfl rfl ?_
  refine VO.val rfl rfl (OpV.pickF rfl rfl rfl rfl rfl) ?_
  refine VO.ma rfl rfl rfl rfl ?_
  refine VO.nil ?_
  refine VC.ret ?_
  exact Exists.intro _ (And.intro (RetN.one Tryz.results30 (ResN.v rfl)) (by first | rw [worF_1 (by omega)] | rw [worF_2 (by omega)] | rw [worF_3 (by omega) (by omega)]))
end Go.Proofs.YtaaokimiadfidaaGreatDoor
namespace Go.Proofs.YtaaokimiadfidaaGreatDoor
open Go.RowKit
set_option linter.unusedVariables false
set_option linter.unusedSimpArgs false
def shB (p : LookS → Bool) (l : List LookS) : ShS := (badN (l.filter p), (l.filter p).length)
theorem shB_take {p : LookS → Bool} {l : List LookS} {q : Nat} (h : q < l.length) : shB p (l.take (q + 1)) = if p (l.getD q default) = true then shAdd (shB p (l.take q)) (l.getD q default).bad else shB p (l.take q) := by
 have e : l.getD q default = l[q] := by simp [h]
 unfold shB
 rw [List.take_succ_eq_append_getElem h, List.filter_append, e]
 by_cases hp : p l[q] = true
 ·rw [if_pos hp]
  by_cases hb : l[q].bad = true <;> simp [hp, badN, shAdd, hb]
 ·rw [if_neg hp]
  simp [hp]
theorem shB_0 (p : LookS → Bool) (l : List LookS) : shB p (l.take 0) = (0, 0) := by simp [shB, badN]
theorem shB_le {p : LookS → Bool} {l : List LookS} (hl : l.length ≤ 1000000) (q : Nat) : (shB p (l.take q)).1 ≤ 1000000 ∧ (shB p (l.take q)).2 ≤ 1000000 := by
 have h1 := badN_le ((l.take q).filter p)
 have h2 := List.length_filter_le p (l.take q)
 have h3 : (l.take q).length ≤ l.length := by rw [List.length_take]; omega
 unfold shB
 constructor <;> simp only <;> omega
def worE (l : List LookS) (s : Int) (r : ByteArray) : Int := if lookF l ≠ 0 then lookF l else if keyF r = false then 5 else if outR s 0 345686399999 = true then 1 else 0
def worV (l : List LookS) (s : Int) (r : ByteArray) : Bool := if worE l s r = 0 then worF l s r else false
section
variable {l : List LookS} {s : Int} {r : ByteArray}
theorem wor_1 (h : lookF l ≠ 0) : worE l s r = lookF l ∧ worV l s r = false := by
 have : worE l s r = lookF l := by rw [worE, if_pos h]
 exact ⟨this, by rw [worV, this, if_neg h]⟩
theorem wor_2 (h : lookF l = 0) (h2 : keyF r = false) : worE l s r = 5 ∧ worV l s r = false := by
 have : worE l s r = 5 := by rw [worE, if_neg (by omega), if_pos h2]
 exact ⟨this, by rw [worV, this, if_neg (by decide)]⟩
theorem wor_3 (h : lookF l = 0) (h2 : keyF r = true) (h3 : outR s 0 345686399999 = true) : worE l s r = 1 ∧ worV l s r = false := by
 have : worE l s r = 1 := by rw [worE, if_neg (by omega), if_neg (by rw [h2]; simp), if_pos h3]
 exact ⟨this, by rw [worV, this, if_neg (by decide)]⟩
theorem wor_4 (h : lookF l = 0) (h2 : keyF r = true) (h3 : outR s 0 345686399999 = false) : worE l s r = 0 ∧ worV l s r = worF l s r := by
 have : worE l s r = 0 := by rw [worE, if_neg (by omega), if_neg (by rw [h2]; simp), if_neg (by rw [h3]; simp)]
 exact ⟨this, by rw [worV, this, if_pos rfl]⟩
theorem worF_s1 (h : ¬ (0 : Int) < (shB (pBef s r) l).2) : worF l s r = false := worF_1 h
theorem worF_s2 (h : ¬ (0 : Int) < (shB (pBeh s r) l).2) : worF l s r = false := worF_2 h
theorem worF_s3 (h1 : (0 : Int) < (shB (pBef s r) l).2) (h2 : (0 : Int) < (shB (pBeh s r) l).2) : worF l s r = grt (shB (pBeh s r) l) (shB (pBef s r) l) := by
 rw [worF_3 h1 h2]
 unfold grt
 apply decide_eq_decide.2
 exact_mod_cast Iff.rfl
end
set_option maxRecDepth 100000 in
set_option maxHeartbeats 8000000 in
theorem inspect_Worse {l : List LookS} {s : Int} {r : ByteArray} (hs : SmLk l) (hr : r.size ≤ 1000000) :
  SpecN Tryz.prog 20 [avL l, avI s, avS r] (fun y => y = .tup [avB (worV l s r), avI (worE l s r)]) := by
 refine SpecN.of_VCN Tryz.func20 rfl Tryz.ntmps20 (Nle rfl) fun w A hB => ?_
 have hnew : True := trivial
 refine VC.seq ?_
 have hl := hs.len
 refine VC.region ?_
 refine VO.ma rfl rfl rfl rfl ?_
 refine VO.ma rfl rfl rfl rfl ?_
 refine VO.nil ?_
 refine VC.seq ?_
 refine VC.sr ?_
 refine VO.mv rfl rfl rfl rfl ?_
 refine VO.op rfl (OpE.call rfl hB rfl Tryz.call105 rfl (SpecN.spec (inspect_CheckLooks hs)) ?_)
 rintro _ rfl
 refine VO.ma rfl rfl rfl rfl ?_
 refine VO.nil ?_
 refine VC.sr ?_
 refine VO.mv rfl rfl rfl rfl ?_
 refine VO.val rfl rfl (OpV.neq rfl rfl rfl) ?_
 refine VO.nil ?_
 refine VC.cond rfl (fun h0b => ?_) (fun h0b => ?_)
 ·have h0 := h0b
  try simp only [qqT, qqF, qqN, qqM, qqL, qqE] at h0
  refine VC.sr ?_
  refine VO.mv rfl rfl rfl rfl ?_
  refine VO.ma rfl rfl rfl rfl ?_
  refine VO.ma rfl rfl rfl rfl ?_
  refine VO.nil ?_
  refine VC.ret ?_
  exact Exists.intro _ (And.intro (RetN.two Tryz.results20 (ResN.v rfl) (ResN.v rfl)) (by rw [(wor_1 h0).1, (wor_1 h0).2]))
 ·have h0 := h0b
  try simp only [qqT, qqF, qqN, qqM, qqL, qqE] at h0
  refine VC.skip ?_
  refine VC.seq ?_
  refine VC.sr ?_
  refine VO.mv rfl rfl rfl rfl ?_
  refine VO.op rfl (OpE.call rfl hB rfl Tryz.call116 rfl (SpecN.spec (kit_IsKey (by omega))) ?_)
  rintro _ rfl
  refine VO.val rfl rfl (OpV.not rfl rfl) ?_
  refine VO.nil ?_
  refine VC.cond rfl (fun h1b => ?_) (fun h1b => ?_)
  ·have h1 := h1b
   try simp only [qqT, qqF, qqN, qqM, qqL, qqE] at h1
   refine VC.sr ?_
   refine VO.ma rfl rfl rfl rfl ?_
   refine VO.ma rfl rfl rfl rfl ?_
   refine VO.nil ?_
   refine VC.ret ?_
   exact Exists.intro _ (And.intro (RetN.two Tryz.results20 (ResN.v rfl) (ResN.v rfl)) (by rw [(wor_2 (by omega) (by simp_all)).1, (wor_2 (by omega) (by simp_all)).2]))
  ·have h1 := h1b
   try simp only [qqT, qqF, qqN, qqM, qqL, qqE] at h1
   refine VC.skip ?_
   refine VC.seq ?_
   refine VC.sr ?_
   refine VO.mv rfl rfl rfl rfl ?_
   refine VO.op rfl (OpE.call rfl hB rfl Tryz.call117 rfl (SpecN.spec (kit_IsMoment)) ?_)
   rintro _ rfl
   refine VO.val rfl rfl (OpV.not rfl rfl) ?_
   refine VO.nil ?_
   refine VC.cond rfl (fun h2b => ?_) (fun h2b => ?_)
   ·have h2 := h2b
    try simp only [qqT, qqF, qqN, qqM, qqL, qqE] at h2
    refine VC.sr ?_
    refine VO.ma rfl rfl rfl rfl ?_
    refine VO.ma rfl rfl rfl rfl ?_
    refine VO.nil ?_
    refine VC.ret ?_
    exact Exists.intro _ (And.intro (RetN.two Tryz.results20 (ResN.v rfl) (ResN.v rfl)) (by rw [(wor_3 (by omega) (by simp_all) (by simp_all)).1, (wor_3 (by omega) (by simp_all) (by simp_all)).2]))
   ·have h2 := h2b
    try simp only [qqT, qqF, qqN, qqM, qqL, qqE] at h2
    refine VC.skip ?_
    refine VC.sr ?_
    refine VO.op rfl (OpE.alloc rfl hB rfl Tryz.zeroValue162 rfl ?_)
    intro g9
    refine VO.op rfl (OpE.alloc rfl hB rfl Tryz.zeroValue162 rfl ?_)
    intro g10
    refine VO.nil ?_
    refine VC.seq ?_
    refine VC.sr ?_
    refine VO.mv rfl rfl rfl rfl ?_
    refine VO.val rfl rfl (OpV.len_im rfl Tryz.underlying26 rfl) ?_
    refine VO.mv rfl rfl rfl rfl ?_
    refine VO.nil ?_
    refine VC.block ?_
    refine VC.loopK [(1, _), (2, _), (9, _), (10, _), (24, _), (25, _)] ⟨rfl, rfl, rfl, rfl, rfl, rfl, trivial⟩ ({q : Nat // q ≤ l.length}) (fun (iZ : {q : Nat // q ≤ l.length}) => match iZ with | ⟨q, hq⟩ => [(26, avI (q : Int))]) (fun (iZ : {q : Nat // q ≤ l.length}) => match iZ with | ⟨q, hq⟩ => [boxSh g9 (shB (pBef s r) (l.take q)), boxSh g10 (shB (pBeh s r) (l.take q))]) (fun (iZ : {q : Nat // q ≤ l.length}) => match iZ with | ⟨q, hq⟩ => 0) (fun (iZ : {q : Nat // q ≤ l.length}) => match iZ with | ⟨q, hq⟩ => l.length - q) ⟨0, Nat.zero_le _⟩ (Le.mk hB [0, 1] ⟨rfl, rfl, rfl, rfl, rfl, rfl, rfl, trivial⟩ rfl (by dsimp only; rw [shB_0, shB_0]; rfl) (Nat.le_refl _)) ?_
    rintro ⟨q, hq⟩
    show VC _ _ _ _ ⟨[(26, avI (q : Int))] ++ [(1, _), (2, _), (9, _), (10, _), (24, _), (25, _)], [boxSh g9 (shB (pBef s r) (l.take q)), boxSh g10 (shB (pBeh s r) (l.take q))], 0⟩
    have hq1 := shB_le (p := pBef s r) hl q
    have hq2 := shB_le (p := pBeh s r) hl q
    refine VC.sr ?_
    refine VO.val rfl rfl (OpV.lss rfl rfl rfl) ?_
    refine VO.nil ?_
    refine VC.seq ?_
    refine VC.cond rfl (fun aH1b => ?_) (fun aH1b => ?_)
    ·have aH1 := aH1b
     try simp only [qqT, qqF, qqN, qqM, qqL, qqE] at aH1
     refine VC.skip ?_
     refine VC.seq ?_
     refine VC.block ?_
     refine VC.sr ?_
     refine VO.val rfl rfl (OpV.indexAddr_E rfl Tryz.underlying26 Tryz.sizeOf33 rfl rfl rfl (by omega)) ?_
     refine VO.val rfl rfl (OpV.loadK_at rfl hB OutW.no Tryz.isAgg33 Tryz.sizeOf33 rfl rfl) ?_
     refine VO.op rfl (OpE.alloc rfl hB rfl Tryz.zeroValue33 rfl ?_)
     intro g12
     refine VO.op rfl (OpE.store (i := 2) rfl hB rfl Tryz.sizeOf33 rfl rfl rfl rfl rfl rfl (Nle rfl) trivial ?_)
     refine VO.nil ?_
     refine VC.block ?_
     refine VC.sr ?_
     refine VO.val rfl rfl (OpV.fieldAddrO 7 rfl Tryz.underlying33 rfl rfl Tryz.sizeOf9 rfl) ?_
     refine VO.val rfl rfl (OpV.load_own (i := 2) rfl hB Tryz.isAgg9 rfl rfl rfl (fun h => h)) ?_
     refine VO.mv rfl rfl rfl rfl ?_
     refine VO.val rfl rfl (OpV.sneq rfl rfl rfl) ?_
     refine VO.ma rfl rfl rfl rfl ?_
     refine VO.nil ?_
     refine VC.cond rfl (fun h4b => ?_) (fun h4b => ?_)
     ·have h4 := h4b
      try simp only [qqT, qqF, qqN, qqM, qqL, qqE] at h4
      have e1 : pBef s r (l.getD q default) = false := by simp_all [pBef]
      have e2 : pBeh s r (l.getD q default) = false := by simp_all [pBeh]
      refine VC.skip ?_
      refine VC.region ?_
      refine VO.val rfl rfl (OpV.add rfl rfl rfl (by unfold fits; omega)) ?_
      refine VO.mv rfl rfl rfl rfl ?_
      refine VO.nil ?_
      exact Exists.intro (⟨q + 1, by omega⟩) (And.intro (Le.mk hB [0, 1] ⟨rfl, rfl, rfl, rfl, rfl, rfl, rfl, trivial⟩ rfl (by dsimp only; rw [shB_take (by omega), shB_take (by omega), e1, e2]; rfl) (Nat.le_refl _)) (by first | omega | (show _ < _; omega) | (simp only []; omega)))
     ·have h4 := h4b
      try simp only [qqT, qqF, qqN, qqM, qqL, qqE] at h4
      refine VC.sr ?_
      refine VO.val rfl rfl (OpV.fieldAddrO 2 rfl Tryz.underlying33 rfl rfl Tryz.sizeOf3 rfl) ?_
      refine VO.val rfl rfl (OpV.load_own (i := 2) rfl hB Tryz.isAgg3 rfl rfl rfl (fun h => h)) ?_
      refine VO.mv rfl rfl rfl rfl ?_
      refine VO.val rfl rfl (OpV.lss rfl rfl rfl) ?_
      refine VO.ma rfl rfl rfl rfl ?_
      refine VO.nil ?_
      refine VC.cond rfl (fun h5b => ?_) (fun h5b => ?_)
      ·have h5 := h5b
       try simp only [qqT, qqF, qqN, qqM, qqL, qqE] at h5
       have e1 : pBef s r (l.getD q default) = true := by simp_all [pBef]
       have e2 : pBeh s r (l.getD q default) = false := by simp_all [pBeh]
       refine VC.region ?_
       refine VO.val rfl rfl (OpV.loadK_own (i := 2) rfl hB Tryz.isAgg33 Tryz.sizeOf33 rfl rfl rfl (fun h => h)) ?_
       refine VO.op rfl (OpE.callH (rest := [_, _]) rfl hB rfl Tryz.call118 rfl rfl (share_add (x := l.getD q default) (b := (shB (pBef s r) (l.take q)).1) (a := (shB (pBef s r) (l.take q)).2) (by omega) (by omega)) (List.Perm.refl _) (fun _ _ => trivial) ?_)
       rintro _ _ ⟨rfl, rfl⟩
       refine VO.nil ?_
       refine VC.region ?_
       refine VO.val rfl rfl (OpV.add rfl rfl rfl (by unfold fits; omega)) ?_
       refine VO.mv rfl rfl rfl rfl ?_
       refine VO.nil ?_
       exact Exists.intro (⟨q + 1, by omega⟩) (And.intro (Le.mk hB [0, 1] ⟨rfl, rfl, rfl, rfl, rfl, rfl, rfl, trivial⟩ rfl (by dsimp only; rw [shB_take (by omega), shB_take (by omega), e1, e2]; rfl) (Nat.le_refl _)) (by first | omega | (show _ < _; omega) | (simp only []; omega)))
      ·have h5 := h5b
       try simp only [qqT, qqF, qqN, qqM, qqL, qqE] at h5
       have e1 : pBef s r (l.getD q default) = false := by simp_all [pBef]
       have e2 : pBeh s r (l.getD q default) = true := by simp_all [pBeh]
       refine VC.region ?_
       refine VO.val rfl rfl (OpV.loadK_own (i := 2) rfl hB Tryz.isAgg33 Tryz.sizeOf33 rfl rfl rfl (fun h => h)) ?_
       refine VO.op rfl (OpE.callH (rest := [_, _]) rfl hB rfl Tryz.call118 rfl rfl (share_add (x := l.getD q default) (b := (shB (pBeh s r) (l.take q)).1) (a := (shB (pBeh s r) (l.take q)).2) (by omega) (by omega)) (List.Perm.swap _ _ _) (fun _ _ => trivial) ?_)
       rintro _ _ ⟨rfl, rfl⟩
       refine VO.le _ (Le.pickH [1, 0, 2] rfl rfl) ?_
       refine VO.nil ?_
       refine VC.region ?_
       refine VO.val rfl rfl (OpV.add rfl rfl rfl (by unfold fits; omega)) ?_
       refine VO.mv rfl rfl rfl rfl ?_
       refine VO.nil ?_
       exact Exists.intro (⟨q + 1, by omega⟩) (And.intro (Le.mk hB [0, 1] ⟨rfl, rfl, rfl, rfl, rfl, rfl, rfl, trivial⟩ rfl (by dsimp only; rw [shB_take (by omega), shB_take (by omega), e1, e2]; rfl) (Nat.le_refl _)) (by first | omega | (show _ < _; omega) | (simp only []; omega)))
    ·have aH1 := aH1b
     try simp only [qqT, qqF, qqN, qqM, qqL, qqE] at aH1
     obtain rfl : q = l.length := by omega
     rw [List.take_length] at hq1 hq2 ⊢
     refine VC.exit ?_
     refine VC.sr ?_
     refine VO.val rfl rfl (OpV.fieldAddrO 1 rfl Tryz.underlying162 rfl rfl Tryz.sizeOf3 rfl) ?_
     refine VO.val rfl rfl (OpV.load_own (i := 0) rfl hB Tryz.isAgg3 rfl rfl rfl (fun h => h)) ?_
     refine VO.val rfl rfl (OpV.gtr rfl rfl rfl) ?_
     refine VO.mv rfl rfl rfl rfl ?_
     refine VO.opG rfl rfl rfl rfl (fun aK2b => ?_) (fun aK2b => ?_)
     ·replace aK2b : _ = true := aK2b
      have aK2 := aK2b
      try simp only [qqT, qqF, qqN, qqM, qqL, qqE] at aK2
      refine OpE.val (W := NoB) (OpV.fieldAddrO 1 rfl Tryz.underlying162 rfl rfl Tryz.sizeOf3 rfl) rfl ?_
      refine VO.opY rfl rfl rfl rfl aK2b ?_
      refine OpE.val (W := NoB) (OpV.load_own (i := 1) rfl hB Tryz.isAgg3 rfl rfl rfl (fun h => h)) rfl ?_
      refine VO.opY rfl rfl rfl rfl aK2b ?_
      refine OpE.val (W := NoB) (OpV.gtr rfl rfl rfl) rfl ?_
      refine VO.val rfl rfl (OpV.pickT rfl rfl rfl rfl aK2b) ?_
      refine VO.mv rfl rfl rfl rfl ?_
      refine VO.opG rfl rfl rfl rfl (fun aK3b => ?_) (fun aK3b => ?_)
      ·replace aK3b : _ = true := aK3b
       have aK3 := aK3b
       try simp only [qqT, qqF, qqN, qqM, qqL, qqE] at aK3
       refine OpE.val (W := NoB) (OpV.loadK_own (i := 1) rfl hB Tryz.isAgg162 Tryz.sizeOf162 rfl rfl rfl (fun h => h)) rfl ?_
       refine VO.opY rfl rfl rfl rfl aK3b ?_
       refine OpE.val (W := NoB) (OpV.loadK_own (i := 0) rfl hB Tryz.isAgg162 Tryz.sizeOf162 rfl rfl rfl (fun h => h)) rfl ?_
       refine VO.opY rfl rfl rfl rfl aK3b ?_
       refine OpE.call rfl hB rfl Tryz.call114 rfl (SpecN.spec (share_greater (s := shB (pBeh s r) l) (t := shB (pBef s r) l) (by omega) (by omega) (by omega) (by omega))) ?_
       rintro _ rfl
       refine VO.val rfl rfl (OpV.pickT rfl rfl rfl rfl aK3b) ?_
       refine VO.ma rfl rfl rfl rfl ?_
       refine VO.ma rfl rfl rfl rfl ?_
       refine VO.nil ?_
       refine VC.ret ?_
       exact Exists.intro _ (And.intro (RetN.two Tryz.results20 (ResN.v rfl) (ResN.v rfl)) (by rw [(wor_4 (by omega) (by simp_all) (by simp_all)).1, (wor_4 (by omega) (by simp_all) (by simp_all)).2]; first | rw [worF_s1 (by omega)] | rw [worF_s2 (by omega)] | rw [worF_s3 (by omega) (by omega)]))
      ·replace aK3b : _ = false := aK3b
       have aK3 := aK3b
       try simp only [qqT, qqF, qqN, qqM, qqL, qqE] at aK3
       refine VO.opX rfl rfl rfl rfl aK3b ?_
       refine VO.opX rfl rfl rfl rfl aK3b ?_
       refine VO.val rfl rfl (OpV.pickF rfl rfl rfl rfl aK3b) ?_
       refine VO.ma rfl rfl rfl rfl ?_
       refine VO.ma rfl rfl rfl rfl ?_
       refine VO.nil ?_
       refine VC.ret ?_
       exact Exists.intro _ (And.intro (RetN.two Tryz.results20 (ResN.v rfl) (ResN.v rfl)) (by rw [(wor_4 (by omega) (by simp_all) (by simp_all)).1, (wor_4 (by omega) (by simp_all) (by simp_all)).2]; first | rw [worF_s1 (by omega)] | rw [worF_s2 (by omega)] | rw [worF_s3 (by omega) (by omega)]))
     ·replace aK2b : _ = false := aK2b
      have aK2 := aK2b
      try simp only [qqT, qqF, qqN, qqM, qqL, qqE] at aK2
      refine VO.opX rfl rfl rfl rfl aK2b ?_
      refine VO.opX rfl rfl rfl rfl aK2b ?_
      refine VO.val rfl rfl (OpV.pickF rfl rfl rfl rfl aK2b) ?_
      refine VO.mv rfl rfl rfl rfl ?_
      refine VO.opX rfl rfl rfl rfl rfl ?_
      refine VO.opX rfl rfl rfl rfl rfl ?_
      refine VO.opX rfl rfl rfl rfl rfl ?_
      refine VO.val rfl rfl (OpV.pickF rfl rfl rfl rfl rfl) ?_
      refine VO.ma rfl rfl rfl rfl ?_
      refine VO.ma rfl rfl rfl rfl ?_
      refine VO.nil ?_
      refine VC.ret ?_
      exact Exists.intro _ (And.intro (RetN.two Tryz.results20 (ResN.v rfl) (ResN.v rfl)) (by rw [(wor_4 (by omega) (by simp_all) (by simp_all)).1, (wor_4 (by omega) (by simp_all) (by simp_all)).2]; first | rw [worF_s1 (by omega)] | rw [worF_s2 (by omega)] | rw [worF_s3 (by omega) (by omega)]))
end Go.Proofs.YtaaokimiadfidaaGreatDoor
namespace Go.Proofs.YtaaokimiadfidaaGreatDoor
open Go.RowKit
set_option linter.unusedVariables false
set_option linter.unusedSimpArgs false
theorem quo_fit {l : List LookS} {n : Int} {i : Nat} (h : lookF l = 0) (hn : 1 ≤ n) (hi : i < l.length) : 0 ≤ qat n (l.getD i default) ∧ qat n (l.getD i default) ≤ 345686399999 := by
 have h1 := (lookE_zero ((lookOk h).all i hi)).at_
 have h2 := qat_bd hn h1.1
 omega
theorem trQ_bd {l : List LookS} {n : Int} {N q k : Nat} (hl : l.length ≤ 5000) (hk : k < N) : 0 ≤ (trQ l n N q).getD k 0 ∧ (trQ l n N q).getD k 0 ≤ 5000 := by
 rw [trQ_get hk]
 have h1 := cntL_le (fun x => x.bad && decide (qat n x = trF l n + (k : Int))) (l.take q)
 have h2 := List.length_take_le q l
 have h3 : (l.take q).length ≤ l.length := by rw [List.length_take]; omega
 omega
set_option maxRecDepth 100000 in
set_option maxHeartbeats 8000000 in
theorem inspect_Trend {l : List LookS} {n : Int} (hs : SmLk l) :
  SpecN Tryz.prog 21 [avL l, avI n] (fun y => y = .tup [avInts (trL l n), avI (trE l n)]) := by
 refine SpecN.of_VCN Tryz.func21 rfl Tryz.ntmps21 (Nle rfl) fun w A hB => ?_
 have hnew : True := trivial
 refine VC.seq ?_
 have hl := hs.len
 refine VC.region ?_
 refine VO.ma rfl rfl rfl rfl ?_
 refine VO.ma rfl rfl rfl rfl ?_
 refine VO.nil ?_
 refine VC.seq ?_
 refine VC.sr ?_
 refine VO.mv rfl rfl rfl rfl ?_
 refine VO.op rfl (OpE.call rfl hB rfl Tryz.call105 rfl (SpecN.spec ((inspect_CheckLooks (by omega)))) ?_)
 rintro _ rfl
 refine VO.ma rfl rfl rfl rfl ?_
 refine VO.nil ?_
 refine VC.sr ?_
 refine VO.mv rfl rfl rfl rfl ?_
 refine VO.val rfl rfl (OpV.neq rfl rfl rfl) ?_
 refine VO.nil ?_
 refine VC.cond rfl (fun h0b => ?_) (fun h0b => ?_)
 ·have h0 := h0b
  try simp only [qqT, qqF, qqN, qqM, qqL, qqE] at h0
  refine VC.sr ?_
  refine VO.mv rfl rfl rfl rfl ?_
  refine VO.ma rfl rfl rfl rfl ?_
  refine VO.ma rfl rfl rfl rfl ?_
  refine VO.nil ?_
  refine VC.ret ?_
  exact Exists.intro _ (And.intro (RetN.two Tryz.results21 (ResN.nilI rfl) (ResN.v rfl)) (by rw [trL, if_neg (fun h => h0 (by rw [← trE_1 (s := n) h0]; exact h.1)), trE_1 h0]))
 ·have h0 := h0b
  try simp only [qqT, qqF, qqN, qqM, qqL, qqE] at h0
  refine VC.skip ?_
  refine VC.seq ?_
  refine VC.sr ?_
  refine VO.mv rfl rfl rfl rfl ?_
  refine VO.op rfl (OpE.call rfl hB rfl Tryz.call119 rfl (SpecN.spec (kit_Outside)) ?_)
  rintro _ rfl
  refine VO.nil ?_
  refine VC.cond rfl (fun h9b => ?_) (fun h9b => ?_)
  ·have h9 := h9b
   try simp only [qqT, qqF, qqN, qqM, qqL, qqE] at h9
   have h1 : outR n 1 86400000 = true := h9b
   refine VC.sr ?_
   refine VO.ma rfl rfl rfl rfl ?_
   refine VO.ma rfl rfl rfl rfl ?_
   refine VO.nil ?_
   refine VC.ret ?_
   exact Exists.intro _ (And.intro (RetN.two Tryz.results21 (ResN.nilI rfl) (ResN.v rfl)) (by rw [trL, if_neg (fun h => by have e := trE_2 (l := l) (s := n) (by omega) h1; omega), trE_2 (by omega) h1]))
  ·have h9 := h9b
   try simp only [qqT, qqF, qqN, qqM, qqL, qqE] at h9
   have h1 : outR n 1 86400000 = false := h9b
   refine VC.skip ?_
   refine VC.seq ?_
   refine VC.sr ?_
   refine VO.mv rfl rfl rfl rfl ?_
   refine VO.val rfl rfl (OpV.len_im rfl Tryz.underlying26 rfl) ?_
   refine VO.val rfl rfl (OpV.eql rfl rfl rfl) ?_
   refine VO.nil ?_
   refine VC.cond rfl (fun h2b => ?_) (fun h2b => ?_)
   ·have h2 := h2b
    try simp only [qqT, qqF, qqN, qqM, qqL, qqE] at h2
    refine VC.sr ?_
    refine VO.ma rfl rfl rfl rfl ?_
    refine VO.ma rfl rfl rfl rfl ?_
    refine VO.nil ?_
    refine VC.ret ?_
    exact Exists.intro _ (And.intro (RetN.two Tryz.results21 (ResN.nilI rfl) (ResN.v rfl)) (by rw [trL, if_neg (fun h => h.2 (by omega)), trE_3 (by omega) h1 (by omega)]))
   ·have h2 := h2b
    try simp only [qqT, qqF, qqN, qqM, qqL, qqE] at h2
    refine VC.skip ?_
    refine VC.seq ?_
    have h00 : lookF l = 0 := by omega
    have hn := outR_inL (fun h => by rw [h1] at h; cases h)
    have hl5 := (lookOk h00).len
    have hf0 := quo_fit (i := 0) h00 hn.1 (by omega)
    have hf1 := quo_fit (i := l.length - 1) h00 hn.1 (by omega)
    have htp := trM_pos h00 hn.1 (by omega)
    refine VC.region ?_
    refine VO.mv rfl rfl rfl rfl ?_
    refine VO.val rfl rfl (OpV.indexAddr_E rfl Tryz.underlying26 Tryz.sizeOf33 rfl rfl (Int.toNat_of_nonneg (by omega)).symm (by omega)) ?_
    refine VO.val rfl rfl (OpV.fieldAddr_atO 2 rfl Tryz.underlying33 rfl rfl Tryz.sizeOf3 rfl rfl) ?_
    refine VO.val rfl rfl (OpV.load_at rfl hB OutW.no Tryz.isAgg3 rfl rfl) ?_
    refine VO.mv rfl rfl rfl rfl ?_
    refine VO.val rfl rfl (OpV.quo rfl rfl rfl (by omega) (by have h : fits (qat n (l.getD 0 default)) := by { unfold fits; omega }; exact h)) ?_
    refine VO.le _ (Le.recast (t := 27) (y := avI (trF l n)) rfl (fun w Z u h => h)) ?_
    refine VO.ma rfl rfl rfl rfl ?_
    refine VO.nil ?_
    refine VC.sr ?_
    refine VO.mv rfl rfl rfl rfl ?_
    refine VO.mv rfl rfl rfl rfl ?_
    refine VO.val rfl rfl (OpV.len_im rfl Tryz.underlying26 rfl) ?_
    refine VO.val rfl rfl (OpV.sub rfl rfl rfl (by unfold fits; omega)) ?_
    refine VO.val rfl rfl (OpV.indexAddr_E rfl Tryz.underlying26 Tryz.sizeOf33 rfl rfl (show ((l.length : Int) - 1) = ((l.length - 1 : Nat) : Int) by omega) (by omega)) ?_
    refine VO.val rfl rfl (OpV.fieldAddr_atO 2 rfl Tryz.underlying33 rfl rfl Tryz.sizeOf3 rfl rfl) ?_
    refine VO.val rfl rfl (OpV.load_at rfl hB OutW.no Tryz.isAgg3 rfl rfl) ?_
    refine VO.mv rfl rfl rfl rfl ?_
    refine VO.val rfl rfl (OpV.quo rfl rfl rfl (by omega) (by unfold fits; have h := hf1; unfold qat at h; omega)) ?_
    refine VO.mv rfl rfl rfl rfl ?_
    refine VO.val rfl rfl (OpV.sub rfl rfl rfl (by unfold fits; have h := hf1; have h' : 0 ≤ trF l n ∧ trF l n ≤ 345686399999 := hf0; unfold qat at h; omega)) ?_
    refine VO.val rfl rfl (OpV.add rfl rfl rfl (by unfold fits; have h := hf1; have h' : 0 ≤ trF l n ∧ trF l n ≤ 345686399999 := hf0; unfold qat at h; omega)) ?_
    refine VO.le _ (Le.recast (t := 39) (y := avI (trM l n)) rfl (fun w Z u h => h)) ?_
    refine VO.ma rfl rfl rfl rfl ?_
    refine VO.nil ?_
    refine VC.seq ?_
    refine VC.sr ?_
    refine VO.mv rfl rfl rfl rfl ?_
    refine VO.val rfl rfl (OpV.gtr rfl rfl rfl) ?_
    refine VO.nil ?_
    refine VC.cond rfl (fun h3b => ?_) (fun h3b => ?_)
    ·have h3 := h3b
     try simp only [qqT, qqF, qqN, qqM, qqL, qqE] at h3
     refine VC.sr ?_
     refine VO.ma rfl rfl rfl rfl ?_
     refine VO.ma rfl rfl rfl rfl ?_
     refine VO.nil ?_
     refine VC.ret ?_
     exact Exists.intro _ (And.intro (RetN.two Tryz.results21 (ResN.nilI rfl) (ResN.v rfl)) (by rw [trL, if_neg (fun h => by have e := trE_4 (l := l) (s := n) h00 h1 (by omega) (by omega); omega), trE_4 h00 h1 (by omega) (by omega)]))
    ·have h3 := h3b
     try simp only [qqT, qqF, qqN, qqM, qqL, qqE] at h3
     refine VC.skip ?_
     refine VC.seq ?_
     obtain ⟨N, hN⟩ : ∃ N : Nat, trM l n = N := ⟨(trM l n).toNat, by omega⟩
     refine VC.region ?_
     refine VO.mv rfl rfl rfl rfl ?_
     refine VO.op rfl (OpE.make rfl hB rfl Tryz.underlying22 (infoOf Tryz.t3 1 (by kernel_rfl) rfl rfl) (by decide) rfl rfl (n := N) (by omega) (by omega) (by omega) (made_ints N) ?_)
     intro gb
     rw [intsL_len, List.length_replicate, ← trQ_0 (l := l) (s := n)]
     refine VO.ma rfl rfl rfl rfl ?_
     refine VO.nil ?_
     refine VC.seq ?_
     refine VC.sr ?_
     refine VO.mv rfl rfl rfl rfl ?_
     refine VO.val rfl rfl (OpV.len_im rfl Tryz.underlying26 rfl) ?_
     refine VO.mv rfl rfl rfl rfl ?_
     refine VO.nil ?_
     refine VC.block ?_
     refine VC.loopK [(1, _), (7, _), (9, _), (44, _), (45, _)] ⟨rfl, rfl, rfl, rfl, rfl, trivial⟩ ({q : Nat // q ≤ l.length}) (fun (iZ : {q : Nat // q ≤ l.length}) => match iZ with | ⟨q, hq⟩ => [(46, avI (q : Int))]) (fun (iZ : {q : Nat // q ≤ l.length}) => match iZ with | ⟨q, hq⟩ => [.box gb ⟨intsL (trQ l n N q), 3, N⟩]) (fun (iZ : {q : Nat // q ≤ l.length}) => match iZ with | ⟨q, hq⟩ => 0) (fun (iZ : {q : Nat // q ≤ l.length}) => match iZ with | ⟨q, hq⟩ => l.length - q) ⟨0, Nat.zero_le _⟩ (Le.mk hB [0] ⟨rfl, rfl, rfl, rfl, rfl, rfl, trivial⟩ rfl rfl (Nat.le_refl _)) ?_
     rintro ⟨q, hq⟩
     show VC _ _ _ _ ⟨[(46, avI (q : Int))] ++ [(1, _), (7, _), (9, _), (44, _), (45, _)], [.box gb ⟨intsL (trQ l n N q), 3, N⟩], 0⟩
     refine VC.sr ?_
     refine VO.val rfl rfl (OpV.lss rfl rfl rfl) ?_
     refine VO.nil ?_
     refine VC.seq ?_
     refine VC.cond rfl (fun aH1b => ?_) (fun aH1b => ?_)
     ·have aH1 := aH1b
      try simp only [qqT, qqF, qqN, qqM, qqL, qqE] at aH1
      refine VC.skip ?_
      refine VC.seq ?_
      refine VC.block ?_
      refine VC.sr ?_
      refine VO.val rfl rfl (OpV.indexAddr_E rfl Tryz.underlying26 Tryz.sizeOf33 rfl rfl rfl (by omega)) ?_
      refine VO.val rfl rfl (OpV.loadK_at rfl hB OutW.no Tryz.isAgg33 Tryz.sizeOf33 rfl rfl) ?_
      refine VO.op rfl (OpE.alloc rfl hB rfl Tryz.zeroValue33 rfl ?_)
      intro g11
      refine VO.op rfl (OpE.store (i := 1) rfl hB rfl Tryz.sizeOf33 rfl rfl rfl rfl rfl rfl (Nle rfl) trivial ?_)
      refine VO.nil ?_
      refine VC.sr ?_
      refine VO.val rfl rfl (OpV.fieldAddrO 4 rfl Tryz.underlying33 rfl rfl Tryz.sizeOf4 rfl) ?_
      refine VO.val rfl rfl (OpV.load_own (i := 1) rfl hB Tryz.isAgg4 rfl rfl rfl (fun h => h)) ?_
      refine VO.nil ?_
      refine VC.cond rfl (fun h5b => ?_) (fun h5b => ?_)
      ·have h5 := h5b
       try simp only [qqT, qqF, qqN, qqM, qqL, qqE] at h5
       have hti := tr_in (q := q) h00 hn.1 (by omega)
       have hfq := quo_fit (i := q) h00 hn.1 (by omega)
       obtain ⟨k, hk⟩ : ∃ k : Nat, qat n (l.getD q default) - trF l n = (k : Int) := ⟨(qat n (l.getD q default) - trF l n).toNat, by omega⟩
       have hkb := trQ_bd (q := q) (l := l) (n := n) hl5 (show k < N by omega)
       refine VC.region ?_
       refine VO.mv rfl rfl rfl rfl ?_
       refine VO.val rfl rfl (OpV.fieldAddrO 2 rfl Tryz.underlying33 rfl rfl Tryz.sizeOf3 rfl) ?_
       refine VO.val rfl rfl (OpV.load_own (i := 1) rfl hB Tryz.isAgg3 rfl rfl rfl (fun h => h)) ?_
       refine VO.mv rfl rfl rfl rfl ?_
       refine VO.val rfl rfl (OpV.quo rfl rfl rfl (by omega) (by unfold fits; have h := hfq; unfold qat at h; omega)) ?_
       refine VO.mv rfl rfl rfl rfl ?_
       refine VO.val rfl rfl (OpV.sub rfl rfl rfl (by unfold fits; have h := hfq; have h' : 0 ≤ trF l n ∧ trF l n ≤ 345686399999 := hf0; unfold qat at h; omega)) ?_
       refine VO.le _ (Le.recast (t := 58) (y := avI (k : Int)) rfl (fun w Z u h => by rw [← hk]; exact h)) ?_
       refine VO.val rfl rfl (OpV.indexAddr_o rfl Tryz.underlying22 Tryz.sizeOf3 rfl rfl rfl (by omega)) ?_
       refine VO.val rfl rfl (OpV.load_own (i := 0) rfl hB Tryz.isAgg3 rfl rfl (intsL_get (by rw [trQ_len]; omega)) (fun h => h)) ?_
       refine VO.val rfl rfl (OpV.add rfl rfl rfl (by unfold fits; omega)) ?_
       refine VO.val rfl rfl (OpV.indexAddr_o rfl Tryz.underlying22 Tryz.sizeOf3 rfl rfl rfl (by omega)) ?_
       refine VO.op rfl (OpE.store1 (i := 0) rfl hB rfl Tryz.sizeOf3 rfl rfl rfl rfl rfl rfl (by rw [intsL_len, trQ_len]; omega) (intsL_set _ _ _) trivial ?_)
       refine VO.nil ?_
       refine VC.region ?_
       refine VO.val rfl rfl (OpV.add rfl rfl rfl (by unfold fits; omega)) ?_
       refine VO.mv rfl rfl rfl rfl ?_
       refine VO.nil ?_
       exact Exists.intro (⟨q + 1, by omega⟩) (And.intro (Le.mk hB [0] ⟨rfl, rfl, rfl, rfl, rfl, rfl, trivial⟩ rfl (by dsimp only; first | (rw [trQ_bad (by omega) h5b hk]; rfl) | (rw [trQ_good (by omega) h5b]; rfl)) (Nat.le_refl _)) (by first | omega | (show _ < _; omega) | (simp only []; omega)))
      ·have h5 := h5b
       try simp only [qqT, qqF, qqN, qqM, qqL, qqE] at h5
       refine VC.skip ?_
       refine VC.region ?_
       refine VO.val rfl rfl (OpV.add rfl rfl rfl (by unfold fits; omega)) ?_
       refine VO.mv rfl rfl rfl rfl ?_
       refine VO.nil ?_
       exact Exists.intro (⟨q + 1, by omega⟩) (And.intro (Le.mk hB [0] ⟨rfl, rfl, rfl, rfl, rfl, rfl, trivial⟩ rfl (by dsimp only; first | (rw [trQ_bad (by omega) h5b hk]; rfl) | (rw [trQ_good (by omega) h5b]; rfl)) (Nat.le_refl _)) (by first | omega | (show _ < _; omega) | (simp only []; omega)))
     ·have aH1 := aH1b
      try simp only [qqT, qqF, qqN, qqM, qqL, qqE] at aH1
      obtain rfl : q = l.length := by omega
      refine VC.exit ?_
      refine VC.sr ?_
      refine VO.mv rfl rfl rfl rfl ?_
      refine VO.ma rfl rfl rfl rfl ?_
      refine VO.ma rfl rfl rfl rfl ?_
      refine VO.nil ?_
      refine VC.ret ?_
      exact Exists.intro _ (And.intro (RetN.two Tryz.results21 (ResN.boxI (i := 0) rfl rfl trQ_len.symm (Nat.le_refl _) (capM (by omega))) (ResN.v rfl)) (by rw [trL, if_pos ⟨trE_5 h00 h1 (by omega) (by omega), by omega⟩, trE_5 h00 h1 (by omega) (by omega), show (trM l n).toNat = N by omega]))
end Go.Proofs.YtaaokimiadfidaaGreatDoor
namespace Go.Proofs.YtaaokimiadfidaaGreatDoor
open Go.RowKit
set_option linter.unusedVariables false
set_option linter.unusedSimpArgs false
def qW (m n : Int) : Int := IntKind.i64.wrap (m.tdiv n)
theorem qW_in {m n : Int} (h : fits (m.tdiv n)) : qW m n = m.tdiv n := IntWalk.i64_in _ h
theorem OpV.quoW {P : Program} {B : Bs} {W : Nat → Prop} {s : St'} {o : Oper} {t u : TypeId} {x y : Operand} {m n : Int} (ho : o.op = .binOp .quo t x y u) (hx : evO s x = some (.v (.int .i64 m))) (hy : evO s y = some (.v (.int .i64 n))) (hn : n ≠ 0) : OpV P B W s o (.v (.int .i64 (qW m n))) :=
 OpV.conc (fun a w hr w' hcw => by simp [execOp, ho, hr.evv hx, hr.evv hy, eqGuard, binOp, Op.intDiv, hn, qW])
abbrev pTr (n k : Int) (x : LookS) : Bool := decide (qW x.at_ n = k)
set_option maxRecDepth 100000 in
theorem rf_TrendOf1 {x : LookS} {gs gk : Nat} {n k : Int} (hn : n ≠ 0) :
  SpecH Tryz.prog 136 [avT x, pt gs, pt gk] [bxI gs n, bxI gk k] (fun y hp' => y = avB (pTr n k x) ∧ hp' = [bxI gs n, bxI gk k]) := by
 refine SpecH.of_VC Tryz.func136 rfl Tryz.ntmps136 (Nle rfl) fun w A hB => ?_
 have hnew : True := trivial
 refine VC.sr ?_
 refine VO.op rfl (OpE.box rfl hB rfl rfl rfl ?_)
 intro g3
 refine VO.ma rfl rfl rfl rfl ?_
 refine VO.nil ?_
 refine VC.seq ?_
 refine VC.draw (fun _ => NoB) hB (by kernel_rfl) ?_
 refine VA.take (i := 0) rfl (by kernel_rfl) (by kernel_rfl) (by kernel_rfl) rfl rfl (OpV.fieldAddrO 2 rfl Tryz.underlying33 rfl rfl Tryz.sizeOf3 rfl) ?_
 refine VA.take (i := 1) rfl (by kernel_rfl) (by kernel_rfl) (by kernel_rfl) rfl rfl (OpV.load_own (i := 2) rfl hB Tryz.isAgg3 rfl rfl rfl Wi.not0) ?_
 refine VA.take (i := 2) rfl (by kernel_rfl) (by kernel_rfl) (by kernel_rfl) rfl rfl (OpV.load_own (i := 0) rfl hB Tryz.isAgg3 rfl rfl rfl Wi.not0) ?_
 refine VA.take (i := 3) rfl (by kernel_rfl) (by kernel_rfl) (by kernel_rfl) rfl rfl (OpV.quoW rfl rfl rfl hn) ?_
 refine VA.take (i := 4) rfl (by kernel_rfl) (by kernel_rfl) (by kernel_rfl) rfl rfl (OpV.load_own (i := 1) rfl hB Tryz.isAgg3 rfl rfl rfl Wi.not0) ?_
 refine VA.take (i := 5) rfl (by kernel_rfl) (by kernel_rfl) (by kernel_rfl) rfl rfl (OpV.eql rfl rfl rfl) ?_
 refine VA.take (i := 6) rfl (by kernel_rfl) (by kernel_rfl) (by kernel_rfl) rfl rfl (OpV.move (.inr rfl) rfl) ?_
 refine VA.done (by kernel_rfl) ?_
 refine VC.le _ (Le.pickH [0, 1] rfl rfl) ?_
 refine VC.ret ?_
 exact Exists.intro _ (And.intro (RetV.one Tryz.results136 (ResV.tmp rfl)) (⟨rfl, rfl⟩))
end Go.Proofs.YtaaokimiadfidaaGreatDoor
