/- Walks: small functions. -/
import Derived.Test.YtgikefjbdhnffaaDoorProg
import Derived.Test.YtgikefjbdhnffaaDoorSxOwn
namespace Go.Proofs.YtgikefjbdhnffaaDoor
open Go.RowKit
set_option linter.unusedVariables false
set_option linter.unusedSimpArgs false
set_option maxRecDepth 100000 in
theorem kit_Outside {n a b : Int}  :
    SpecN Tryd.prog 73 [avI n, avI a, avI b] (fun y => y = avB (decide (n < a) || decide (b < n))) := by
  refine SpecN.of_VCN Tryd.func73 rfl Tryd.ntmps73 (Nat.le_of_ble_eq_true rfl) fun w A hB => ?_
  have hnew : True := trivial
  refine VC.seq ?_
  refine VC.region ?_
  refine VO.val rfl rfl (OpV.move (.inr rfl) rfl) ?_
  refine VO.nil ?_
  show VC _ _ _ _ _
  refine VC.seq ?_
  refine VC.region ?_
  refine VO.val rfl rfl (OpV.move (.inl rfl) rfl) ?_
  refine VO.val rfl rfl (OpV.move (.inl rfl) rfl) ?_
  refine VO.val rfl rfl (OpV.lss rfl rfl rfl) ?_
  refine VO.val rfl rfl (OpV.move (.inl rfl) rfl) ?_
  refine VO.opG rfl rfl rfl rfl (fun aK1b => ?_) (fun aK1b => ?_)
  · replace aK1b : _ = false := aK1b
    have aK1 := aK1b
    try simp only [decide_eq_true_eq, decide_eq_false_iff_not, Bool.not_eq_true', Bool.not_eq_false', Int.not_lt, Int.not_le] at aK1
    refine OpE.val (W := NoB) (OpV.move (.inl rfl) rfl) rfl ?_
    refine VO.opY rfl rfl rfl rfl aK1b ?_
    refine OpE.val (W := NoB) (OpV.move (.inl rfl) rfl) rfl ?_
    refine VO.opY rfl rfl rfl rfl aK1b ?_
    refine OpE.val (W := NoB) (OpV.gtr rfl rfl rfl) rfl ?_
    refine VO.val rfl rfl (OpV.pickF rfl rfl rfl rfl aK1b) ?_
    refine VO.val rfl rfl (OpV.move (.inr rfl) rfl) ?_
    refine VO.nil ?_
    show VC _ _ _ _ _
    refine VC.ret ?_
    exact Exists.intro _ (And.intro (RetN.one Tryd.results73 (ResN.v rfl)) (by first | rfl | simp [*]))
  · replace aK1b : _ = true := aK1b
    have aK1 := aK1b
    try simp only [decide_eq_true_eq, decide_eq_false_iff_not, Bool.not_eq_true', Bool.not_eq_false', Int.not_lt, Int.not_le] at aK1
    refine VO.opX rfl rfl rfl rfl aK1b ?_
    refine VO.opX rfl rfl rfl rfl aK1b ?_
    refine VO.val rfl rfl (OpV.pickT rfl rfl rfl rfl aK1b) ?_
    refine VO.val rfl rfl (OpV.move (.inr rfl) rfl) ?_
    refine VO.nil ?_
    show VC _ _ _ _ _
    refine VC.ret ?_
    exact Exists.intro _ (And.intro (RetN.one Tryd.results73 (ResN.v rfl)) (by first | rfl | simp [*]))
set_option maxRecDepth 100000 in
theorem rf_in {n a b : Int}  :
    SpecN Tryd.prog 45 [avI n, avI a, avI b] (fun y => y = avB (decide (a ≤ n) && decide (n ≤ b))) := by
  refine SpecN.of_VCN Tryd.func45 rfl Tryd.ntmps45 (Nat.le_of_ble_eq_true rfl) fun w A hB => ?_
  have hnew : True := trivial
  refine VC.seq ?_
  refine VC.region ?_
  refine VO.val rfl rfl (OpV.move (.inr rfl) rfl) ?_
  refine VO.nil ?_
  show VC _ _ _ _ _
  refine VC.seq ?_
  refine VC.region ?_
  refine VO.val rfl rfl (OpV.move (.inl rfl) rfl) ?_
  refine VO.val rfl rfl (OpV.move (.inl rfl) rfl) ?_
  refine VO.val rfl rfl (OpV.leq rfl rfl rfl) ?_
  refine VO.val rfl rfl (OpV.move (.inl rfl) rfl) ?_
  refine VO.opG rfl rfl rfl rfl (fun aK1b => ?_) (fun aK1b => ?_)
  · replace aK1b : _ = true := aK1b
    have aK1 := aK1b
    try simp only [decide_eq_true_eq, decide_eq_false_iff_not, Bool.not_eq_true', Bool.not_eq_false', Int.not_lt, Int.not_le] at aK1
    refine OpE.val (W := NoB) (OpV.move (.inl rfl) rfl) rfl ?_
    refine VO.opY rfl rfl rfl rfl aK1b ?_
    refine OpE.val (W := NoB) (OpV.move (.inl rfl) rfl) rfl ?_
    refine VO.opY rfl rfl rfl rfl aK1b ?_
    refine OpE.val (W := NoB) (OpV.leq rfl rfl rfl) rfl ?_
    refine VO.val rfl rfl (OpV.pickT rfl rfl rfl rfl aK1b) ?_
    refine VO.val rfl rfl (OpV.move (.inr rfl) rfl) ?_
    refine VO.nil ?_
    show VC _ _ _ _ _
    refine VC.ret ?_
    exact Exists.intro _ (And.intro (RetN.one Tryd.results45 (ResN.v rfl)) (by first | rfl | simp [*]))
  · replace aK1b : _ = false := aK1b
    have aK1 := aK1b
    try simp only [decide_eq_true_eq, decide_eq_false_iff_not, Bool.not_eq_true', Bool.not_eq_false', Int.not_lt, Int.not_le] at aK1
    refine VO.opX rfl rfl rfl rfl aK1b ?_
    refine VO.opX rfl rfl rfl rfl aK1b ?_
    refine VO.val rfl rfl (OpV.pickF rfl rfl rfl rfl aK1b) ?_
    refine VO.val rfl rfl (OpV.move (.inr rfl) rfl) ?_
    refine VO.nil ?_
    show VC _ _ _ _ _
    refine VC.ret ?_
    exact Exists.intro _ (And.intro (RetN.one Tryd.results45 (ResN.v rfl)) (by first | rfl | simp [*]))
end Go.Proofs.YtgikefjbdhnffaaDoor
