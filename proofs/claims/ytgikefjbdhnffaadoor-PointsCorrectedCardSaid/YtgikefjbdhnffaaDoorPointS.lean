/- Walks: fiducials. -/
import Derived.Test.YtgikefjbdhnffaaDoorPoint
import Derived.Test.YtgikefjbdhnffaaDoorSxCell
import Derived.Test.YtgikefjbdhnffaaDoorStreamS
import Derived.Test.YtgikefjbdhnffaaDoorSxEq
namespace Go.Proofs.YtgikefjbdhnffaaDoor
open Go.RowKit
set_option linter.unusedVariables false
set_option linter.unusedSimpArgs false
abbrev avPt (p : PtS) : AV := .agg [avI p.x, avI p.y]
abbrev avPt2 (p q : PtS) : AV := .agg [avI p.x, avI p.y, avI q.x, avI q.y]
theorem far_T {p : PtS} (h : (decide (p.x < -500000) || decide (500000 < p.x)) = true) : farP p = true := by unfold farP outR; rw [h]; rfl
theorem far_F {p : PtS} (h : (decide (p.x < -500000) || decide (500000 < p.x)) = false) : farP p = (decide (p.y < -500000) || decide (500000 < p.y)) := by unfold farP outR; rw [h]; rfl
theorem pt_load {xs : List PtS} {q : Nat} : tab 2 (Sxc.cell (xs.getD q default)) = [avI (xs.getD q default).x, avI (xs.getD q default).y] := rfl
set_option maxRecDepth 100000 in
theorem panel_isFar {p : PtS}  :
    SpecN Tryd.prog 65 [avPt p] (fun y => y = avB (farP p)) := by
  refine SpecN.of_VCN Tryd.func65 rfl Tryd.ntmps65 (Nat.le_of_ble_eq_true rfl) fun w A hB => ?_
  have hnew : True := trivial
  refine VC.seq ?_
  refine VC.region ?_
  refine VO.op rfl (OpE.box rfl hB rfl rfl rfl ?_)
  intro g1
  refine VO.val rfl rfl (OpV.move (.inr rfl) rfl) ?_
  refine VO.nil ?_
  show VC _ _ _ _ _
  refine VC.seq ?_
  refine VC.region ?_
  first
    | refine VO.val rfl rfl (OpV.fieldAddr_atO 0 rfl Tryd.underlying27 rfl rfl Tryd.sizeOf3 rfl rfl) ?_
    | refine VO.val rfl rfl (OpV.fieldAddrO 0 rfl Tryd.underlying27 rfl rfl Tryd.sizeOf3 rfl) ?_
  refine VO.val rfl rfl (OpV.load_own (i := 0) rfl hB Tryd.isAgg3 rfl rfl rfl (fun h => h)) ?_
  refine VO.op rfl (OpE.call rfl hB rfl Tryd.call73 rfl (SpecN.spec (kit_Outside)) ?_)
  rintro _ rfl
  refine VO.val rfl rfl (OpV.move (.inl rfl) rfl) ?_
  refine VO.opG rfl rfl rfl rfl (fun aK1b => ?_) (fun aK1b => ?_)
  · replace aK1b : _ = false := aK1b
    have aK1 := aK1b
    try simp only [decide_eq_true_eq, decide_eq_false_iff_not, Bool.not_eq_true', Bool.not_eq_false', Int.not_lt, Int.not_le] at aK1
    first
      | refine OpE.val (W := NoB) (OpV.fieldAddr_atO 1 rfl Tryd.underlying27 rfl rfl Tryd.sizeOf3 rfl rfl) rfl ?_
      | refine OpE.val (W := NoB) (OpV.fieldAddrO 1 rfl Tryd.underlying27 rfl rfl Tryd.sizeOf3 rfl) rfl ?_
    refine VO.opY rfl rfl rfl rfl aK1b ?_
    refine OpE.val (W := NoB) (OpV.load_own (i := 0) rfl hB Tryd.isAgg3 rfl rfl rfl (fun h => h)) rfl ?_
    refine VO.opY rfl rfl rfl rfl aK1b ?_
    refine OpE.call rfl hB rfl Tryd.call73 rfl (SpecN.spec (kit_Outside)) ?_
    rintro _ rfl
    refine VO.val rfl rfl (OpV.pickF rfl rfl rfl rfl aK1b) ?_
    refine VO.val rfl rfl (OpV.move (.inr rfl) rfl) ?_
    refine VO.nil ?_
    show VC _ _ _ _ _
    refine VC.ret ?_
    exact Exists.intro _ (And.intro (RetN.one Tryd.results65 (ResN.v rfl)) (by first | rw [far_T (by assumption)] | rw [far_F (by assumption)]))
  · replace aK1b : _ = true := aK1b
    have aK1 := aK1b
    try simp only [decide_eq_true_eq, decide_eq_false_iff_not, Bool.not_eq_true', Bool.not_eq_false', Int.not_lt, Int.not_le] at aK1
    refine VO.opX rfl rfl rfl rfl aK1b ?_
    refine VO.opX rfl rfl rfl rfl aK1b ?_
    refine VO.val rfl rfl (OpV.pickT rfl rfl rfl rfl aK1b) ?_
    refine VO.val rfl rfl (OpV.move (.inr rfl) rfl) ?_
    refine VO.nil ?_
    show VC _ _ _ _ _
    refine VC.ret ?_
    exact Exists.intro _ (And.intro (RetN.one Tryd.results65 (ResN.v rfl)) (by first | rw [far_T (by assumption)] | rw [far_F (by assumption)]))
set_option maxRecDepth 100000 in
theorem panel_less {p q : PtS} (h1 : -1000000000000000000 ≤ p.x - q.x ∧ p.x - q.x ≤ 1000000000000000000) (h2 : -1000000000000000000 ≤ p.y - q.y ∧ p.y - q.y ≤ 1000000000000000000) :
    SpecN Tryd.prog 40 [avPt p, avPt q] (fun y => y = avPt (cSub p q)) := by
  refine SpecN.of_VCN Tryd.func40 rfl Tryd.ntmps40 (Nat.le_of_ble_eq_true rfl) fun w A hB => ?_
  have hnew : True := trivial
  refine VC.seq ?_
  refine VC.region ?_
  refine VO.op rfl (OpE.box rfl hB rfl rfl rfl ?_)
  intro g2
  refine VO.op rfl (OpE.box rfl hB rfl rfl rfl ?_)
  intro g3
  refine VO.op rfl (OpE.alloc rfl hB rfl Tryd.zeroValue87 rfl ?_)
  intro g4
  refine VO.nil ?_
  show VC _ _ _ _ _
  refine VC.seq ?_
  refine VC.region ?_
  first
    | refine VO.val rfl rfl (OpV.fieldAddr_atO 0 rfl Tryd.underlying27 rfl rfl Tryd.sizeOf3 rfl rfl) ?_
    | refine VO.val rfl rfl (OpV.fieldAddrO 0 rfl Tryd.underlying27 rfl rfl Tryd.sizeOf3 rfl) ?_
  refine VO.val rfl rfl (OpV.load_own (i := 0) rfl hB Tryd.isAgg3 rfl rfl rfl (fun h => h)) ?_
  first
    | refine VO.val rfl rfl (OpV.fieldAddr_atO 0 rfl Tryd.underlying27 rfl rfl Tryd.sizeOf3 rfl rfl) ?_
    | refine VO.val rfl rfl (OpV.fieldAddrO 0 rfl Tryd.underlying27 rfl rfl Tryd.sizeOf3 rfl) ?_
  refine VO.val rfl rfl (OpV.load_own (i := 1) rfl hB Tryd.isAgg3 rfl rfl rfl (fun h => h)) ?_
  refine VO.val rfl rfl (OpV.sub rfl rfl rfl (by unfold fits; omega)) ?_
  first
    | refine VO.val rfl rfl (OpV.fieldAddr_atO 1 rfl Tryd.underlying27 rfl rfl Tryd.sizeOf3 rfl rfl) ?_
    | refine VO.val rfl rfl (OpV.fieldAddrO 1 rfl Tryd.underlying27 rfl rfl Tryd.sizeOf3 rfl) ?_
  refine VO.val rfl rfl (OpV.load_own (i := 0) rfl hB Tryd.isAgg3 rfl rfl rfl (fun h => h)) ?_
  first
    | refine VO.val rfl rfl (OpV.fieldAddr_atO 1 rfl Tryd.underlying27 rfl rfl Tryd.sizeOf3 rfl rfl) ?_
    | refine VO.val rfl rfl (OpV.fieldAddrO 1 rfl Tryd.underlying27 rfl rfl Tryd.sizeOf3 rfl) ?_
  refine VO.val rfl rfl (OpV.load_own (i := 1) rfl hB Tryd.isAgg3 rfl rfl rfl (fun h => h)) ?_
  refine VO.val rfl rfl (OpV.sub rfl rfl rfl (by unfold fits; omega)) ?_
  refine VO.val rfl rfl (OpV.build (pls := #[(0, 1), (1, 1)]) rfl Tryd.zeroValue87 Tryd.underlying87 (fun w => by kernel_rfl) rfl rfl) ?_
  refine VO.op rfl (OpE.store (i := 2) rfl hB rfl Tryd.sizeOf87 rfl rfl rfl rfl rfl rfl (Nat.le_of_ble_eq_true rfl) trivial ?_)
  refine VO.nil ?_
  show VC _ _ _ _ _
  refine VC.ret ?_
  exact Exists.intro _ (And.intro (RetN.one Tryd.results40 ((by first | exact ResN.cellF (i := 0) Tryd.isAgg87 Tryd.sizeOf87 rfl rfl rfl (flat_ofB rfl) | exact ResN.cellF (i := 1) Tryd.isAgg87 Tryd.sizeOf87 rfl rfl rfl (flat_ofB rfl) | exact ResN.cellF (i := 2) Tryd.isAgg87 Tryd.sizeOf87 rfl rfl rfl (flat_ofB rfl)))) (rfl))
set_option maxRecDepth 100000 in
theorem vec_times {v w : PtS} (h1 : -2000000000000000000 ≤ v.x * w.x ∧ v.x * w.x ≤ 2000000000000000000) (h2 : -2000000000000000000 ≤ v.y * w.y ∧ v.y * w.y ≤ 2000000000000000000) (h3 : -2000000000000000000 ≤ v.x * w.y ∧ v.x * w.y ≤ 2000000000000000000) (h4 : -2000000000000000000 ≤ v.y * w.x ∧ v.y * w.x ≤ 2000000000000000000) :
    SpecN Tryd.prog 41 [avPt v, avPt w] (fun y => y = avPt (cMul v w)) := by
  refine SpecN.of_VCN Tryd.func41 rfl Tryd.ntmps41 (Nat.le_of_ble_eq_true rfl) fun w A hB => ?_
  have hnew : True := trivial
  refine VC.seq ?_
  refine VC.region ?_
  refine VO.op rfl (OpE.box rfl hB rfl rfl rfl ?_)
  intro g2
  refine VO.op rfl (OpE.box rfl hB rfl rfl rfl ?_)
  intro g3
  refine VO.op rfl (OpE.alloc rfl hB rfl Tryd.zeroValue87 rfl ?_)
  intro g4
  refine VO.nil ?_
  show VC _ _ _ _ _
  refine VC.seq ?_
  refine VC.region ?_
  first
    | refine VO.val rfl rfl (OpV.fieldAddr_atO 0 rfl Tryd.underlying87 rfl rfl Tryd.sizeOf3 rfl rfl) ?_
    | refine VO.val rfl rfl (OpV.fieldAddrO 0 rfl Tryd.underlying87 rfl rfl Tryd.sizeOf3 rfl) ?_
  refine VO.val rfl rfl (OpV.load_own (i := 0) rfl hB Tryd.isAgg3 rfl rfl rfl (fun h => h)) ?_
  first
    | refine VO.val rfl rfl (OpV.fieldAddr_atO 0 rfl Tryd.underlying87 rfl rfl Tryd.sizeOf3 rfl rfl) ?_
    | refine VO.val rfl rfl (OpV.fieldAddrO 0 rfl Tryd.underlying87 rfl rfl Tryd.sizeOf3 rfl) ?_
  refine VO.val rfl rfl (OpV.load_own (i := 1) rfl hB Tryd.isAgg3 rfl rfl rfl (fun h => h)) ?_
  refine VO.val rfl rfl (OpV.mul rfl rfl rfl (by unfold fits; omega)) ?_
  first
    | refine VO.val rfl rfl (OpV.fieldAddr_atO 1 rfl Tryd.underlying87 rfl rfl Tryd.sizeOf3 rfl rfl) ?_
    | refine VO.val rfl rfl (OpV.fieldAddrO 1 rfl Tryd.underlying87 rfl rfl Tryd.sizeOf3 rfl) ?_
  refine VO.val rfl rfl (OpV.load_own (i := 0) rfl hB Tryd.isAgg3 rfl rfl rfl (fun h => h)) ?_
  first
    | refine VO.val rfl rfl (OpV.fieldAddr_atO 1 rfl Tryd.underlying87 rfl rfl Tryd.sizeOf3 rfl rfl) ?_
    | refine VO.val rfl rfl (OpV.fieldAddrO 1 rfl Tryd.underlying87 rfl rfl Tryd.sizeOf3 rfl) ?_
  refine VO.val rfl rfl (OpV.load_own (i := 1) rfl hB Tryd.isAgg3 rfl rfl rfl (fun h => h)) ?_
  refine VO.val rfl rfl (OpV.mul rfl rfl rfl (by unfold fits; omega)) ?_
  refine VO.val rfl rfl (OpV.sub rfl rfl rfl (by unfold fits; omega)) ?_
  first
    | refine VO.val rfl rfl (OpV.fieldAddr_atO 0 rfl Tryd.underlying87 rfl rfl Tryd.sizeOf3 rfl rfl) ?_
    | refine VO.val rfl rfl (OpV.fieldAddrO 0 rfl Tryd.underlying87 rfl rfl Tryd.sizeOf3 rfl) ?_
  refine VO.val rfl rfl (OpV.load_own (i := 0) rfl hB Tryd.isAgg3 rfl rfl rfl (fun h => h)) ?_
  first
    | refine VO.val rfl rfl (OpV.fieldAddr_atO 1 rfl Tryd.underlying87 rfl rfl Tryd.sizeOf3 rfl rfl) ?_
    | refine VO.val rfl rfl (OpV.fieldAddrO 1 rfl Tryd.underlying87 rfl rfl Tryd.sizeOf3 rfl) ?_
  refine VO.val rfl rfl (OpV.load_own (i := 1) rfl hB Tryd.isAgg3 rfl rfl rfl (fun h => h)) ?_
  refine VO.val rfl rfl (OpV.mul rfl rfl rfl (by unfold fits; omega)) ?_
  first
    | refine VO.val rfl rfl (OpV.fieldAddr_atO 1 rfl Tryd.underlying87 rfl rfl Tryd.sizeOf3 rfl rfl) ?_
    | refine VO.val rfl rfl (OpV.fieldAddrO 1 rfl Tryd.underlying87 rfl rfl Tryd.sizeOf3 rfl) ?_
  refine VO.val rfl rfl (OpV.load_own (i := 0) rfl hB Tryd.isAgg3 rfl rfl rfl (fun h => h)) ?_
  first
    | refine VO.val rfl rfl (OpV.fieldAddr_atO 0 rfl Tryd.underlying87 rfl rfl Tryd.sizeOf3 rfl rfl) ?_
    | refine VO.val rfl rfl (OpV.fieldAddrO 0 rfl Tryd.underlying87 rfl rfl Tryd.sizeOf3 rfl) ?_
  refine VO.val rfl rfl (OpV.load_own (i := 1) rfl hB Tryd.isAgg3 rfl rfl rfl (fun h => h)) ?_
  refine VO.val rfl rfl (OpV.mul rfl rfl rfl (by unfold fits; omega)) ?_
  refine VO.val rfl rfl (OpV.add rfl rfl rfl (by unfold fits; omega)) ?_
  refine VO.val rfl rfl (OpV.build (pls := #[(0, 1), (1, 1)]) rfl Tryd.zeroValue87 Tryd.underlying87 (fun w => by kernel_rfl) rfl rfl) ?_
  refine VO.op rfl (OpE.store (i := 2) rfl hB rfl Tryd.sizeOf87 rfl rfl rfl rfl rfl rfl (Nat.le_of_ble_eq_true rfl) trivial ?_)
  refine VO.nil ?_
  show VC _ _ _ _ _
  refine VC.ret ?_
  exact Exists.intro _ (And.intro (RetN.one Tryd.results41 ((by first | exact ResN.cellF (i := 0) Tryd.isAgg87 Tryd.sizeOf87 rfl rfl rfl (flat_ofB rfl) | exact ResN.cellF (i := 1) Tryd.isAgg87 Tryd.sizeOf87 rfl rfl rfl (flat_ofB rfl) | exact ResN.cellF (i := 2) Tryd.isAgg87 Tryd.sizeOf87 rfl rfl rfl (flat_ofB rfl)))) (rfl))
set_option maxRecDepth 100000 in
theorem vec_square {v : PtS} (h1 : -2000000000000000000 ≤ v.x * v.x ∧ v.x * v.x ≤ 2000000000000000000) (h2 : -2000000000000000000 ≤ v.y * v.y ∧ v.y * v.y ≤ 2000000000000000000) :
    SpecN Tryd.prog 42 [avPt v] (fun y => y = avI (sqP v)) := by
  refine SpecN.of_VCN Tryd.func42 rfl Tryd.ntmps42 (Nat.le_of_ble_eq_true rfl) fun w A hB => ?_
  have hnew : True := trivial
  refine VC.seq ?_
  refine VC.region ?_
  refine VO.op rfl (OpE.box rfl hB rfl rfl rfl ?_)
  intro g1
  refine VO.val rfl rfl (OpV.move (.inr rfl) rfl) ?_
  refine VO.nil ?_
  show VC _ _ _ _ _
  refine VC.seq ?_
  refine VC.region ?_
  first
    | refine VO.val rfl rfl (OpV.fieldAddr_atO 0 rfl Tryd.underlying87 rfl rfl Tryd.sizeOf3 rfl rfl) ?_
    | refine VO.val rfl rfl (OpV.fieldAddrO 0 rfl Tryd.underlying87 rfl rfl Tryd.sizeOf3 rfl) ?_
  refine VO.val rfl rfl (OpV.load_own (i := 0) rfl hB Tryd.isAgg3 rfl rfl rfl (fun h => h)) ?_
  first
    | refine VO.val rfl rfl (OpV.fieldAddr_atO 0 rfl Tryd.underlying87 rfl rfl Tryd.sizeOf3 rfl rfl) ?_
    | refine VO.val rfl rfl (OpV.fieldAddrO 0 rfl Tryd.underlying87 rfl rfl Tryd.sizeOf3 rfl) ?_
  refine VO.val rfl rfl (OpV.load_own (i := 0) rfl hB Tryd.isAgg3 rfl rfl rfl (fun h => h)) ?_
  refine VO.val rfl rfl (OpV.mul rfl rfl rfl (by unfold fits; omega)) ?_
  first
    | refine VO.val rfl rfl (OpV.fieldAddr_atO 1 rfl Tryd.underlying87 rfl rfl Tryd.sizeOf3 rfl rfl) ?_
    | refine VO.val rfl rfl (OpV.fieldAddrO 1 rfl Tryd.underlying87 rfl rfl Tryd.sizeOf3 rfl) ?_
  refine VO.val rfl rfl (OpV.load_own (i := 0) rfl hB Tryd.isAgg3 rfl rfl rfl (fun h => h)) ?_
  first
    | refine VO.val rfl rfl (OpV.fieldAddr_atO 1 rfl Tryd.underlying87 rfl rfl Tryd.sizeOf3 rfl rfl) ?_
    | refine VO.val rfl rfl (OpV.fieldAddrO 1 rfl Tryd.underlying87 rfl rfl Tryd.sizeOf3 rfl) ?_
  refine VO.val rfl rfl (OpV.load_own (i := 0) rfl hB Tryd.isAgg3 rfl rfl rfl (fun h => h)) ?_
  refine VO.val rfl rfl (OpV.mul rfl rfl rfl (by unfold fits; omega)) ?_
  refine VO.val rfl rfl (OpV.add rfl rfl rfl (by unfold fits; omega)) ?_
  refine VO.val rfl rfl (OpV.move (.inr rfl) rfl) ?_
  refine VO.nil ?_
  show VC _ _ _ _ _
  refine VC.ret ?_
  exact Exists.intro _ (And.intro (RetN.one Tryd.results42 (ResN.v rfl)) (rfl))
theorem tdiv_bd {a b M : Int} (ha : -M ≤ a ∧ a ≤ M) : -M ≤ a.tdiv b ∧ a.tdiv b ≤ M := by
  have h := Int.natAbs_tdiv_le_natAbs a b
  omega
theorem tmod_bd {a b M : Int} (ha : -M ≤ a ∧ a ≤ M) : -M ≤ a.tmod b ∧ a.tmod b ≤ M := by
  have h : (a.tmod b).natAbs ≤ a.natAbs := by rw [Int.natAbs_tmod]; exact Nat.mod_le _ _
  omega
set_option maxRecDepth 100000 in
theorem kit_Floor {a b : Int} (ha : -9000000000000000000 ≤ a ∧ a ≤ 9000000000000000000) (hb : 0 < b) :
    SpecN Tryd.prog 66 [avI a, avI b] (fun y => y = avI (a / b)) := by
  refine SpecN.of_VCN Tryd.func66 rfl Tryd.ntmps66 (Nat.le_of_ble_eq_true rfl) fun w A hB => ?_
  have hnew : True := trivial
  refine VC.seq ?_
  refine VC.region ?_
  refine VO.val rfl rfl (OpV.move (.inr rfl) rfl) ?_
  refine VO.nil ?_
  show VC _ _ _ _ _
  refine VC.seq ?_
  refine VC.region ?_
  refine VO.val rfl rfl (OpV.move (.inl rfl) rfl) ?_
  refine VO.val rfl rfl (OpV.move (.inl rfl) rfl) ?_
  refine VO.val rfl rfl (OpV.quo rfl rfl rfl (by omega) (by have h1 := tdiv_bd (b := b) ha; have h2 := tmod_bd (b := b) ha; unfold fits; omega)) ?_
  refine VO.val rfl rfl (OpV.move (.inr rfl) rfl) ?_
  refine VO.nil ?_
  show VC _ _ _ _ _
  refine VC.seq ?_
  refine VC.seq ?_
  refine VC.region ?_
  refine VO.val rfl rfl (OpV.move (.inl rfl) rfl) ?_
  refine VO.val rfl rfl (OpV.move (.inl rfl) rfl) ?_
  refine VO.val rfl rfl (OpV.rem rfl rfl rfl (by omega) (by have h1 := tdiv_bd (b := b) ha; have h2 := tmod_bd (b := b) ha; unfold fits; omega)) ?_
  refine VO.val rfl rfl (OpV.lss rfl rfl rfl) ?_
  refine VO.nil ?_
  show VC _ _ _ _ _
  refine VC.cond rfl (fun aH1b => ?_) (fun aH1b => ?_)
  · have aH1 := aH1b
    try simp only [decide_eq_true_eq, decide_eq_false_iff_not, Bool.not_eq_true', Bool.not_eq_false', Int.not_lt, Int.not_le] at aH1
    refine VC.region ?_
    refine VO.val rfl rfl (OpV.move (.inl rfl) rfl) ?_
    refine VO.val rfl rfl (OpV.sub rfl rfl rfl (by have h1 := tdiv_bd (b := b) ha; have h2 := tmod_bd (b := b) ha; unfold fits; omega)) ?_
    refine VO.val rfl rfl (OpV.move (.inr rfl) rfl) ?_
    refine VO.nil ?_
    show VC _ _ _ _ _
    refine VC.seq ?_
    refine VC.region ?_
    refine VO.val rfl rfl (OpV.move (.inl rfl) rfl) ?_
    refine VO.val rfl rfl (OpV.move (.inr rfl) rfl) ?_
    refine VO.nil ?_
    show VC _ _ _ _ _
    refine VC.ret ?_
    exact Exists.intro _ (And.intro (RetN.one Tryd.results66 (ResN.v rfl)) (by first | rw [← floor_go hb, if_pos (by assumption)] | rw [← floor_go hb, if_neg (by omega)]))
  · have aH1 := aH1b
    try simp only [decide_eq_true_eq, decide_eq_false_iff_not, Bool.not_eq_true', Bool.not_eq_false', Int.not_lt, Int.not_le] at aH1
    refine VC.skip ?_
    show VC _ _ _ _ _
    refine VC.seq ?_
    refine VC.region ?_
    refine VO.val rfl rfl (OpV.move (.inl rfl) rfl) ?_
    refine VO.val rfl rfl (OpV.move (.inr rfl) rfl) ?_
    refine VO.nil ?_
    show VC _ _ _ _ _
    refine VC.ret ?_
    exact Exists.intro _ (And.intro (RetN.one Tryd.results66 (ResN.v rfl)) (by first | rw [← floor_go hb, if_pos (by assumption)] | rw [← floor_go hb, if_neg (by omega)]))
set_option maxRecDepth 100000 in
theorem rf_floor {a b : Int} (ha : -9000000000000000000 ≤ a ∧ a ≤ 9000000000000000000) (hb : 0 < b) :
    SpecN Tryd.prog 47 [avI a, avI b] (fun y => y = avI (a / b)) := by
  refine SpecN.of_VCN Tryd.func47 rfl Tryd.ntmps47 (Nat.le_of_ble_eq_true rfl) fun w A hB => ?_
  have hnew : True := trivial
  refine VC.seq ?_
  refine VC.region ?_
  refine VO.val rfl rfl (OpV.move (.inr rfl) rfl) ?_
  refine VO.nil ?_
  show VC _ _ _ _ _
  refine VC.seq ?_
  refine VC.region ?_
  refine VO.val rfl rfl (OpV.move (.inl rfl) rfl) ?_
  refine VO.val rfl rfl (OpV.move (.inl rfl) rfl) ?_
  refine VO.val rfl rfl (OpV.quo rfl rfl rfl (by omega) (by have h1 := tdiv_bd (b := b) ha; have h2 := tmod_bd (b := b) ha; unfold fits; omega)) ?_
  refine VO.val rfl rfl (OpV.move (.inr rfl) rfl) ?_
  refine VO.nil ?_
  show VC _ _ _ _ _
  refine VC.seq ?_
  refine VC.seq ?_
  refine VC.region ?_
  refine VO.val rfl rfl (OpV.move (.inl rfl) rfl) ?_
  refine VO.val rfl rfl (OpV.move (.inl rfl) rfl) ?_
  refine VO.val rfl rfl (OpV.rem rfl rfl rfl (by omega) (by have h1 := tdiv_bd (b := b) ha; have h2 := tmod_bd (b := b) ha; unfold fits; omega)) ?_
  refine VO.val rfl rfl (OpV.lss rfl rfl rfl) ?_
  refine VO.nil ?_
  show VC _ _ _ _ _
  refine VC.cond rfl (fun aH1b => ?_) (fun aH1b => ?_)
  · have aH1 := aH1b
    try simp only [decide_eq_true_eq, decide_eq_false_iff_not, Bool.not_eq_true', Bool.not_eq_false', Int.not_lt, Int.not_le] at aH1
    refine VC.region ?_
    refine VO.val rfl rfl (OpV.move (.inl rfl) rfl) ?_
    refine VO.val rfl rfl (OpV.sub rfl rfl rfl (by have h1 := tdiv_bd (b := b) ha; have h2 := tmod_bd (b := b) ha; unfold fits; omega)) ?_
    refine VO.val rfl rfl (OpV.move (.inr rfl) rfl) ?_
    refine VO.nil ?_
    show VC _ _ _ _ _
    refine VC.seq ?_
    refine VC.region ?_
    refine VO.val rfl rfl (OpV.move (.inl rfl) rfl) ?_
    refine VO.val rfl rfl (OpV.move (.inr rfl) rfl) ?_
    refine VO.nil ?_
    show VC _ _ _ _ _
    refine VC.ret ?_
    exact Exists.intro _ (And.intro (RetN.one Tryd.results47 (ResN.v rfl)) (by first | rw [← floor_go hb, if_pos (by assumption)] | rw [← floor_go hb, if_neg (by omega)]))
  · have aH1 := aH1b
    try simp only [decide_eq_true_eq, decide_eq_false_iff_not, Bool.not_eq_true', Bool.not_eq_false', Int.not_lt, Int.not_le] at aH1
    refine VC.skip ?_
    show VC _ _ _ _ _
    refine VC.seq ?_
    refine VC.region ?_
    refine VO.val rfl rfl (OpV.move (.inl rfl) rfl) ?_
    refine VO.val rfl rfl (OpV.move (.inr rfl) rfl) ?_
    refine VO.nil ?_
    show VC _ _ _ _ _
    refine VC.ret ?_
    exact Exists.intro _ (And.intro (RetN.one Tryd.results47 (ResN.v rfl)) (by first | rw [← floor_go hb, if_pos (by assumption)] | rw [← floor_go hb, if_neg (by omega)]))
theorem div_in {n c : Int} (hc : 0 < c) : n / c * c ≤ n ∧ n < n / c * c + c := by
  have h := Int.mul_ediv_add_emod n c
  have h0 := Int.emod_nonneg n (by omega : c ≠ 0)
  have h1 := Int.emod_lt_of_pos n hc
  rw [Int.mul_comm] at h
  omega
theorem ediv_bd {n c M : Int} (hc : 0 < c) (h : -M ≤ n ∧ n ≤ M) : -M ≤ n / c ∧ n / c ≤ M := by
  rw [← floor_go hc]
  have h1 := tdiv_bd (b := c) h
  have h2 := Int.mul_tdiv_add_tmod n c
  have h3 := Int.tmod_lt_of_pos n hc
  split
  · rename_i h4
    refine ⟨?_, by omega⟩
    rcases Int.lt_or_le (-M) (n.tdiv c) with h5 | h5
    · omega
    · have h6 : n.tdiv c = -M := by omega
      rw [h6] at h2
      have h7 : c * -M ≤ 1 * -M ∨ M < 0 := by
        by_cases hM : 0 ≤ M
        · left; exact Int.mul_le_mul_of_nonpos_right (by omega) (by omega)
        · right; omega
      omega
  · exact h1
set_option maxRecDepth 100000 in
theorem panel_rounded {a b : Int} (ha : -8000000000000000000 ≤ a ∧ a ≤ 8000000000000000000) (hb : 0 < b ∧ b ≤ 1000000000000000000) :
    SpecN Tryd.prog 43 [avI a, avI b] (fun y => y = avI (roundI a b)) := by
  refine SpecN.of_VCN Tryd.func43 rfl Tryd.ntmps43 (Nat.le_of_ble_eq_true rfl) fun w A hB => ?_
  have hnew : True := trivial
  refine VC.seq ?_
  refine VC.region ?_
  refine VO.val rfl rfl (OpV.move (.inr rfl) rfl) ?_
  refine VO.nil ?_
  show VC _ _ _ _ _
  refine VC.seq ?_
  refine VC.region ?_
  refine VO.val rfl rfl (OpV.move (.inl rfl) rfl) ?_
  refine VO.val rfl rfl (OpV.move (.inl rfl) rfl) ?_
  refine VO.op rfl (OpE.call rfl hB rfl Tryd.call66 rfl (SpecN.spec (kit_Floor (by omega) hb.1)) ?_)
  rintro _ rfl
  refine VO.val rfl rfl (OpV.move (.inr rfl) rfl) ?_
  refine VO.nil ?_
  show VC _ _ _ _ _
  refine VC.seq ?_
  refine VC.seq ?_
  refine VC.region ?_
  refine VO.val rfl rfl (OpV.move (.inl rfl) rfl) ?_
  refine VO.val rfl rfl (OpV.move (.inl rfl) rfl) ?_
  refine VO.val rfl rfl (OpV.move (.inl rfl) rfl) ?_
  refine VO.val rfl rfl (OpV.mul rfl rfl rfl (by have h1 := div_in (n := a) hb.1; have h2 := ediv_bd hb.1 ha; unfold fits; omega)) ?_
  refine VO.val rfl rfl (OpV.sub rfl rfl rfl (by have h1 := div_in (n := a) hb.1; have h2 := ediv_bd hb.1 ha; unfold fits; omega)) ?_
  refine VO.val rfl rfl (OpV.move (.inr rfl) rfl) ?_
  refine VO.nil ?_
  show VC _ _ _ _ _
  refine VC.seq ?_
  refine VC.region ?_
  refine VO.val rfl rfl (OpV.move (.inl rfl) rfl) ?_
  refine VO.val rfl rfl (OpV.move (.inl rfl) rfl) ?_
  refine VO.val rfl rfl (OpV.move (.inl rfl) rfl) ?_
  refine VO.val rfl rfl (OpV.sub rfl rfl rfl (by have h1 := div_in (n := a) hb.1; have h2 := ediv_bd hb.1 ha; unfold fits; omega)) ?_
  refine VO.val rfl rfl (OpV.geq rfl rfl rfl) ?_
  refine VO.nil ?_
  show VC _ _ _ _ _
  refine VC.cond rfl (fun h0b => ?_) (fun h0b => ?_)
  · have h0 := h0b
    try simp only [decide_eq_true_eq, decide_eq_false_iff_not, Bool.not_eq_true', Bool.not_eq_false', Int.not_lt, Int.not_le] at h0
    refine VC.region ?_
    refine VO.val rfl rfl (OpV.move (.inl rfl) rfl) ?_
    refine VO.val rfl rfl (OpV.add rfl rfl rfl (by have h1 := div_in (n := a) hb.1; have h2 := ediv_bd hb.1 ha; unfold fits; omega)) ?_
    refine VO.val rfl rfl (OpV.move (.inr rfl) rfl) ?_
    refine VO.nil ?_
    show VC _ _ _ _ _
    refine VC.seq ?_
    refine VC.region ?_
    refine VO.val rfl rfl (OpV.move (.inl rfl) rfl) ?_
    refine VO.val rfl rfl (OpV.move (.inr rfl) rfl) ?_
    refine VO.nil ?_
    show VC _ _ _ _ _
    refine VC.ret ?_
    exact Exists.intro _ (And.intro (RetN.one Tryd.results43 (ResN.v rfl)) (by first | rw [roundI, if_pos h0] | rw [roundI, if_neg (by omega)]))
  · have h0 := h0b
    try simp only [decide_eq_true_eq, decide_eq_false_iff_not, Bool.not_eq_true', Bool.not_eq_false', Int.not_lt, Int.not_le] at h0
    refine VC.skip ?_
    show VC _ _ _ _ _
    refine VC.seq ?_
    refine VC.region ?_
    refine VO.val rfl rfl (OpV.move (.inl rfl) rfl) ?_
    refine VO.val rfl rfl (OpV.move (.inr rfl) rfl) ?_
    refine VO.nil ?_
    show VC _ _ _ _ _
    refine VC.ret ?_
    exact Exists.intro _ (And.intro (RetN.one Tryd.results43 (ResN.v rfl)) (by first | rw [roundI, if_pos h0] | rw [roundI, if_neg (by omega)]))
theorem far_at {l : List PtS} {q : Nat} (hq : q < l.length) (h : farP (l.getD q default) = true) : l.any farP = true := by
  rw [List.any_eq_true]
  exact ⟨_, List.getElem_mem hq, by rw [← h, List.getD_eq_getElem?_getD, List.getElem?_eq_getElem hq]; rfl⟩
theorem far_none {l : List PtS} {q : Nat} (hq : q = l.length) (h : ∀ j, j < q → farP (l.getD j default) = false) : l.any farP = false := by
  rw [List.any_eq_false]
  intro x hx
  obtain ⟨j, hj, rfl⟩ := List.getElem_of_mem hx
  have := h j (by omega)
  rw [List.getD_eq_getElem?_getD, List.getElem?_eq_getElem hj] at this
  simpa using this
theorem ptEq_dec (p q : PtS) : ptEq p q = (decide (p.x = q.x) && decide (p.y = q.y)) := rfl
theorem pE_1 {a b c d p : PtS} {l : List PtS} {q : Nat} (hl : l = [a, b, c, d, p]) (hq : q < l.length) (h : farP (l.getD q default) = true) : pointsE a b c d [p] = 1 := by
  subst hl
  exact if_pos (far_at (l := [a, b, c, d, p]) hq h)
theorem pE_n {a b c d p : PtS} {l : List PtS} {q : Nat} (hl : l = [a, b, c, d, p]) (hq : q = l.length) (h : ∀ j, j < q → farP (l.getD j default) = false) : pointsE a b c d [p] = if (ptEq a b || ptEq c d) = true then 16 else 0 := by
  subst hl
  exact if_neg (by show ¬ [a, b, c, d, p].any farP = true; rw [far_none (l := [a, b, c, d, p]) hq h]; simp)
set_option maxRecDepth 100000 in
theorem panel_fiducialsFault {a b c d p : PtS}  :
    SpecN Tryd.prog 39 [avPt2 a b, avPt2 c d, avPt p] (fun y => y = avI (pointsE a b c d [p])) := by
  refine SpecN.of_VCN Tryd.func39 rfl Tryd.ntmps39 (Nat.le_of_ble_eq_true rfl) fun w A hB => ?_
  have hnew : True := trivial
  refine VC.seq ?_
  refine VC.region ?_
  refine VO.op rfl (OpE.box rfl hB rfl rfl rfl ?_)
  intro g3
  refine VO.op rfl (OpE.box rfl hB rfl rfl rfl ?_)
  intro g4
  refine VO.op rfl (OpE.box rfl hB rfl rfl rfl ?_)
  intro g5
  refine VO.val rfl rfl (OpV.move (.inr rfl) rfl) ?_
  refine VO.nil ?_
  show VC _ _ _ _ _
  refine VC.seq ?_
  refine VC.seq ?_
  refine VC.region ?_
  refine VO.val rfl rfl (OpV.indexAddr_arr rfl Tryd.underlying29 Tryd.sizeOf27 rfl rfl (by omega) (by omega)) ?_
  refine VO.val rfl rfl (OpV.loadK_own (i := 0) rfl hB Tryd.isAgg27 Tryd.sizeOf27 rfl rfl rfl (fun h => h)) ?_
  refine VO.val rfl rfl (OpV.indexAddr_arr rfl Tryd.underlying29 Tryd.sizeOf27 rfl rfl (by omega) (by omega)) ?_
  refine VO.val rfl rfl (OpV.loadK_own (i := 0) rfl hB Tryd.isAgg27 Tryd.sizeOf27 rfl rfl rfl (fun h => h)) ?_
  refine VO.val rfl rfl (OpV.indexAddr_arr rfl Tryd.underlying29 Tryd.sizeOf27 rfl rfl (by omega) (by omega)) ?_
  refine VO.val rfl rfl (OpV.loadK_own (i := 1) rfl hB Tryd.isAgg27 Tryd.sizeOf27 rfl rfl rfl (fun h => h)) ?_
  refine VO.val rfl rfl (OpV.indexAddr_arr rfl Tryd.underlying29 Tryd.sizeOf27 rfl rfl (by omega) (by omega)) ?_
  refine VO.val rfl rfl (OpV.loadK_own (i := 1) rfl hB Tryd.isAgg27 Tryd.sizeOf27 rfl rfl rfl (fun h => h)) ?_
  refine VO.val rfl rfl (OpV.loadK_own (i := 2) rfl hB Tryd.isAgg27 Tryd.sizeOf27 rfl rfl rfl (fun h => h)) ?_
  refine VO.op rfl (OpE.buildSlice (zc := #[.int .i64 0, .int .i64 0, .int .i64 0, .int .i64 0, .int .i64 0, .int .i64 0, .int .i64 0, .int .i64 0, .int .i64 0, .int .i64 0]) rfl hB rfl Tryd.underlying92 Tryd.sizeOf27 Tryd.zeroValue27 (by decide) (by decide) (by kernel_rfl) rfl rfl ?_)
  refine VO.le _ (Le.recast (t := 18) (y := avL [a, b, c, d, p]) rfl (fun w Z u h => Rep.rowL (xs := [a, b, c, d, p]) rfl h)) ?_
  obtain ⟨l, hl, hll⟩ : ∃ l : List PtS, l = [a, b, c, d, p] ∧ l.length = 5 := ⟨_, rfl, rfl⟩
  rw [← hl]
  first
    | refine VO.val rfl rfl (OpV.len_im rfl Tryd.underlying92 rfl) ?_
    | refine VO.val rfl rfl (OpV.len_v rfl Tryd.underlying92 rfl) ?_
    | refine VO.val rfl rfl (OpV.len_row (i := 0) rfl Tryd.underlying92 rfl rfl) ?_
    | refine VO.val rfl rfl (OpV.len_row (i := 1) rfl Tryd.underlying92 rfl rfl) ?_
    | refine VO.val rfl rfl (OpV.len_row (i := 2) rfl Tryd.underlying92 rfl rfl) ?_
  refine VO.val rfl rfl (OpV.move (.inl rfl) rfl) ?_
  refine VO.nil ?_
  show VC _ _ _ _ _
  refine VC.block ?_
  refine VC.loopK [(3, _), (4, _), (18, _), (19, _)] ⟨rfl, rfl, rfl, rfl, trivial⟩ ({q : Nat // q ≤ l.length ∧ ∀ j, j < q → farP (l.getD j default) = false}) (fun (i : {q : Nat // q ≤ l.length ∧ ∀ j, j < q → farP (l.getD j default) = false}) => match i with | ⟨q, hq, hn⟩ => [(20, avI (q : Int))]) (fun (i : {q : Nat // q ≤ l.length ∧ ∀ j, j < q → farP (l.getD j default) = false}) => match i with | ⟨q, hq, hn⟩ => [.box g3 ⟨[avI a.x, avI a.y, avI b.x, avI b.y], 29, 4⟩, .box g4 ⟨[avI c.x, avI c.y, avI d.x, avI d.y], 29, 4⟩]) (fun (i : {q : Nat // q ≤ l.length ∧ ∀ j, j < q → farP (l.getD j default) = false}) => match i with | ⟨q, hq, hn⟩ => 0) (fun (i : {q : Nat // q ≤ l.length ∧ ∀ j, j < q → farP (l.getD j default) = false}) => match i with | ⟨q, hq, hn⟩ => l.length - q) ⟨0, Nat.zero_le _, fun j hj => absurd hj (Nat.not_lt_zero j)⟩ (Le.mk hB [0, 1] ⟨rfl, rfl, rfl, rfl, rfl, trivial⟩ rfl rfl (Nat.le_refl _)) ?_
  rintro ⟨q, hq, hn⟩
  show VC _ _ _ _ ⟨[(20, avI (q : Int))] ++ [(3, _), (4, _), (18, _), (19, _)], [.box g3 ⟨[avI a.x, avI a.y, avI b.x, avI b.y], 29, 4⟩, .box g4 ⟨[avI c.x, avI c.y, avI d.x, avI d.y], 29, 4⟩], 0⟩
  refine VC.seq ?_
  refine VC.region ?_
  refine VO.val rfl rfl (OpV.lss rfl rfl rfl) ?_
  refine VO.nil ?_
  show VC _ _ _ _ _
  refine VC.seq ?_
  refine VC.cond rfl (fun aH1b => ?_) (fun aH1b => ?_)
  · have aH1 := aH1b
    try simp only [decide_eq_true_eq, decide_eq_false_iff_not, Bool.not_eq_true', Bool.not_eq_false', Int.not_lt, Int.not_le] at aH1
    refine VC.skip ?_
    show VC _ _ _ _ _
    refine VC.seq ?_
    refine VC.block ?_
    refine VC.seq ?_
    refine VC.region ?_
    first
      | refine VO.val rfl rfl (OpV.indexAddr_E rfl Tryd.underlying92 Tryd.sizeOf27 rfl rfl rfl (by omega)) ?_
      | refine VO.val rfl rfl (OpV.indexAddr_E rfl Tryd.underlying92 Tryd.sizeOf27 rfl rfl (Int.toNat_of_nonneg (by omega)).symm (by omega)) ?_
      | refine VO.val rfl rfl (OpV.indexAddr_q rfl Tryd.underlying92 Tryd.sizeOf27 rfl rfl rfl (by omega)) ?_
      | refine VO.val rfl rfl (OpV.indexAddr_q rfl Tryd.underlying92 Tryd.sizeOf27 rfl rfl (Int.toNat_of_nonneg (by omega)).symm (by omega)) ?_
      | refine VO.val rfl rfl (OpV.indexAddr_im rfl Tryd.underlying92 Tryd.sizeOf27 rfl rfl (by omega) (by omega)) ?_
    first
      | refine VO.val rfl rfl (OpV.loadK_at rfl hB OutW.no Tryd.isAgg27 Tryd.sizeOf27 rfl rfl) ?_
      | refine VO.val rfl rfl (OpV.loadK_own (i := 0) rfl hB Tryd.isAgg27 Tryd.sizeOf27 rfl rfl rfl (fun h => h)) ?_
      | refine VO.val rfl rfl (OpV.loadK_own (i := 1) rfl hB Tryd.isAgg27 Tryd.sizeOf27 rfl rfl rfl (fun h => h)) ?_
    refine VO.op rfl (OpE.alloc rfl hB rfl Tryd.zeroValue27 rfl ?_)
    intro g8
    refine VO.op rfl (OpE.store (i := 2) rfl hB rfl Tryd.sizeOf27 rfl rfl rfl rfl rfl rfl (Nat.le_of_ble_eq_true rfl) trivial ?_)
    refine VO.nil ?_
    show VC _ _ _ _ _
    refine VC.seq ?_
    refine VC.region ?_
    refine VO.val rfl rfl (OpV.loadK_own (i := 2) rfl hB Tryd.isAgg27 Tryd.sizeOf27 rfl rfl rfl (fun h => h)) ?_
    refine VO.op rfl (OpE.call rfl hB rfl Tryd.call65 rfl (SpecN.spec (panel_isFar (p := l.getD q default))) ?_)
    rintro _ rfl
    refine VO.nil ?_
    show VC _ _ _ _ _
    refine VC.cond rfl (fun h1b => ?_) (fun h1b => ?_)
    · have h1 := h1b
      try simp only [decide_eq_true_eq, decide_eq_false_iff_not, Bool.not_eq_true', Bool.not_eq_false', Int.not_lt, Int.not_le] at h1
      refine VC.seq ?_
      refine VC.region ?_
      refine VO.val rfl rfl (OpV.move (.inr rfl) rfl) ?_
      refine VO.nil ?_
      show VC _ _ _ _ _
      refine VC.ret ?_
      exact Exists.intro _ (And.intro (RetN.one Tryd.results39 (ResN.v rfl)) (by rw [pE_1 hl (by omega) h1]))
    · have h1 := h1b
      try simp only [decide_eq_true_eq, decide_eq_false_iff_not, Bool.not_eq_true', Bool.not_eq_false', Int.not_lt, Int.not_le] at h1
      refine VC.skip ?_
      show VC _ _ _ _ _
      refine VC.region ?_
      refine VO.val rfl rfl (OpV.add rfl rfl rfl (by unfold fits; omega)) ?_
      refine VO.val rfl rfl (OpV.move (.inl rfl) rfl) ?_
      refine VO.nil ?_
      exact Exists.intro (⟨q + 1, by omega, lt_succ_cases hn (h1)⟩) (And.intro (Le.mk hB [0, 1] ⟨rfl, rfl, rfl, rfl, rfl, trivial⟩ rfl rfl (Nat.le_refl _)) (by first | omega | (show _ < _; omega) | (simp only []; omega)))
  · have aH1 := aH1b
    try simp only [decide_eq_true_eq, decide_eq_false_iff_not, Bool.not_eq_true', Bool.not_eq_false', Int.not_lt, Int.not_le] at aH1
    refine VC.exit ?_
    show VC _ _ _ _ _
    refine VC.seq ?_
    refine VC.seq ?_
    refine VC.region ?_
    refine VO.val rfl rfl (OpV.indexAddr_arr rfl Tryd.underlying29 Tryd.sizeOf27 rfl rfl (by omega) (by omega)) ?_
    first
      | refine VO.val rfl rfl (OpV.loadK_at rfl hB OutW.no Tryd.isAgg27 Tryd.sizeOf27 rfl rfl) ?_
      | refine VO.val rfl rfl (OpV.loadK_own (i := 0) rfl hB Tryd.isAgg27 Tryd.sizeOf27 rfl rfl rfl (fun h => h)) ?_
      | refine VO.val rfl rfl (OpV.loadK_own (i := 1) rfl hB Tryd.isAgg27 Tryd.sizeOf27 rfl rfl rfl (fun h => h)) ?_
    refine VO.val rfl rfl (OpV.indexAddr_arr rfl Tryd.underlying29 Tryd.sizeOf27 rfl rfl (by omega) (by omega)) ?_
    first
      | refine VO.val rfl rfl (OpV.loadK_at rfl hB OutW.no Tryd.isAgg27 Tryd.sizeOf27 rfl rfl) ?_
      | refine VO.val rfl rfl (OpV.loadK_own (i := 0) rfl hB Tryd.isAgg27 Tryd.sizeOf27 rfl rfl rfl (fun h => h)) ?_
      | refine VO.val rfl rfl (OpV.loadK_own (i := 1) rfl hB Tryd.isAgg27 Tryd.sizeOf27 rfl rfl rfl (fun h => h)) ?_
    refine VO.val rfl rfl (OpV.aeql rfl Tryd.underlying27 (by kernel_rfl) (by kernel_rfl) rfl rfl (EqFs.int Tryd.underlying3 Tryd.isAgg3 rfl (by decide) (EqFs.int Tryd.underlying3 Tryd.isAgg3 rfl (by decide) (EqFs.nil _)))) ?_
    refine VO.val rfl rfl (OpV.move (.inl rfl) rfl) ?_
    refine VO.opG rfl rfl rfl rfl (fun aK2b => ?_) (fun aK2b => ?_)
    · replace aK2b : _ = false := aK2b
      have aK2 := aK2b
      try simp only [decide_eq_true_eq, decide_eq_false_iff_not, Bool.not_eq_true', Bool.not_eq_false', Int.not_lt, Int.not_le] at aK2
      refine OpE.val (W := NoB) (OpV.indexAddr_arr rfl Tryd.underlying29 Tryd.sizeOf27 rfl rfl (by omega) (by omega)) rfl ?_
      refine VO.opY rfl rfl rfl rfl aK2b ?_
      first
        | refine OpE.val (W := NoB) (OpV.loadK_at rfl hB OutW.no Tryd.isAgg27 Tryd.sizeOf27 rfl rfl) rfl ?_
        | refine OpE.val (W := NoB) (OpV.loadK_own (i := 0) rfl hB Tryd.isAgg27 Tryd.sizeOf27 rfl rfl rfl (fun h => h)) rfl ?_
        | refine OpE.val (W := NoB) (OpV.loadK_own (i := 1) rfl hB Tryd.isAgg27 Tryd.sizeOf27 rfl rfl rfl (fun h => h)) rfl ?_
      refine VO.opY rfl rfl rfl rfl aK2b ?_
      refine OpE.val (W := NoB) (OpV.indexAddr_arr rfl Tryd.underlying29 Tryd.sizeOf27 rfl rfl (by omega) (by omega)) rfl ?_
      refine VO.opY rfl rfl rfl rfl aK2b ?_
      first
        | refine OpE.val (W := NoB) (OpV.loadK_at rfl hB OutW.no Tryd.isAgg27 Tryd.sizeOf27 rfl rfl) rfl ?_
        | refine OpE.val (W := NoB) (OpV.loadK_own (i := 0) rfl hB Tryd.isAgg27 Tryd.sizeOf27 rfl rfl rfl (fun h => h)) rfl ?_
        | refine OpE.val (W := NoB) (OpV.loadK_own (i := 1) rfl hB Tryd.isAgg27 Tryd.sizeOf27 rfl rfl rfl (fun h => h)) rfl ?_
      refine VO.opY rfl rfl rfl rfl aK2b ?_
      refine OpE.val (W := NoB) (OpV.aeql rfl Tryd.underlying27 (by kernel_rfl) (by kernel_rfl) rfl rfl (EqFs.int Tryd.underlying3 Tryd.isAgg3 rfl (by decide) (EqFs.int Tryd.underlying3 Tryd.isAgg3 rfl (by decide) (EqFs.nil _)))) rfl ?_
      refine VO.val rfl rfl (OpV.pickF rfl rfl rfl rfl aK2b) ?_
      refine VO.nil ?_
      show VC _ _ _ _ _
      refine VC.cond rfl (fun h2b => ?_) (fun h2b => ?_)
      · have h2 := h2b
        try simp only [decide_eq_true_eq, decide_eq_false_iff_not, Bool.not_eq_true', Bool.not_eq_false', Int.not_lt, Int.not_le] at h2
        refine VC.seq ?_
        refine VC.region ?_
        refine VO.val rfl rfl (OpV.move (.inr rfl) rfl) ?_
        refine VO.nil ?_
        show VC _ _ _ _ _
        refine VC.ret ?_
        exact Exists.intro _ (And.intro (RetN.one Tryd.results39 (ResN.v rfl)) (by rw [pE_n hl (by omega) hn, if_pos (by simp_all [ptEq])]))
      · have h2 := h2b
        try simp only [decide_eq_true_eq, decide_eq_false_iff_not, Bool.not_eq_true', Bool.not_eq_false', Int.not_lt, Int.not_le] at h2
        refine VC.skip ?_
        show VC _ _ _ _ _
        refine VC.seq ?_
        refine VC.region ?_
        refine VO.val rfl rfl (OpV.move (.inr rfl) rfl) ?_
        refine VO.nil ?_
        show VC _ _ _ _ _
        refine VC.ret ?_
        exact Exists.intro _ (And.intro (RetN.one Tryd.results39 (ResN.v rfl)) (by rw [pE_n hl (by omega) hn, if_neg (by simp_all [ptEq])]))
    · replace aK2b : _ = true := aK2b
      have aK2 := aK2b
      try simp only [decide_eq_true_eq, decide_eq_false_iff_not, Bool.not_eq_true', Bool.not_eq_false', Int.not_lt, Int.not_le] at aK2
      refine VO.opX rfl rfl rfl rfl aK2b ?_
      refine VO.opX rfl rfl rfl rfl aK2b ?_
      refine VO.opX rfl rfl rfl rfl aK2b ?_
      refine VO.opX rfl rfl rfl rfl aK2b ?_
      refine VO.val rfl rfl (OpV.pickT rfl rfl rfl rfl aK2b) ?_
      refine VO.nil ?_
      show VC _ _ _ _ _
      refine VC.condT rfl rfl ?_
      refine VC.seq ?_
      refine VC.region ?_
      refine VO.val rfl rfl (OpV.move (.inr rfl) rfl) ?_
      refine VO.nil ?_
      show VC _ _ _ _ _
      refine VC.ret ?_
      exact Exists.intro _ (And.intro (RetN.one Tryd.results39 (ResN.v rfl)) (by rw [pE_n hl (by omega) hn, if_pos (by simp_all [ptEq])]))
theorem cell_one2 (xs : List PtS) : ∀ j, j < xs.length * 2 → (Sxc.cell (xs.getD (j / 2) default) (j % 2)).one = true := fun j _ => by
  have h : j % 2 < 2 := Nat.mod_lt _ (by decide)
  generalize j % 2 = m at h
  match m, h with
  | 0, _ => rfl
  | 1, _ => rfl
theorem pE_m1 {a b c d : PtS} {more l : List PtS} {q : Nat} (hl : l = [a, b, c, d] ++ more) (hq : q < l.length) (h : farP (l.getD q default) = true) : pointsE a b c d more = 1 := by
  subst hl
  exact if_pos (far_at hq h)
theorem pE_mn {a b c d : PtS} {more l : List PtS} {q : Nat} (hl : l = [a, b, c, d] ++ more) (hq : q = l.length) (h : ∀ j, j < q → farP (l.getD j default) = false) : pointsE a b c d more = if (ptEq a b || ptEq c d) = true then 16 else 0 := by
  subst hl
  exact if_neg (by rw [far_none hq h]; simp)
theorem farP_in (p : PtS) : farP p = (!(decide (-500000 ≤ p.x) && decide (p.x ≤ 500000)) || !(decide (-500000 ≤ p.y) && decide (p.y ≤ 500000))) := by
  unfold farP; rw [outR_in, outR_in]
theorem farI_T {p : PtS} (h : (!(decide (-500000 ≤ p.x) && decide (p.x ≤ 500000))) = true) : farP p = true := by rw [farP_in, h]; rfl
theorem farI_2 {p : PtS} (h : (!(decide (-500000 ≤ p.x) && decide (p.x ≤ 500000))) = false) : farP p = !(decide (-500000 ≤ p.y) && decide (p.y ≤ 500000)) := by rw [farP_in, h]; rfl
theorem tab_more (a b c d : PtS) (more : List PtS) : [avI a.x, avI a.y, avI b.x, avI b.y, avI c.x, avI c.y, avI d.x, avI d.y] ++ tab (more.length * 2) (fun j => Sxc.cell (more.getD (j / 2) default) (j % 2)) = rowL ([a, b, c, d] ++ more) := by
  refine List.ext_getElem? fun i => ?_
  by_cases hi : i < 8
  · rw [List.getElem?_append_left (by simpa using hi)]
    match i, hi with
    | 0, _ | 1, _ | 2, _ | 3, _ | 4, _ | 5, _ | 6, _ | 7, _ => rfl
  · rw [List.getElem?_append_right (by simp; omega)]
    by_cases hj : i - 8 < more.length * 2
    · have h := rowL_get ([a, b, c, d] ++ more) (i / 2) (i % 2) (by simp; omega) (Nat.mod_lt _ (by decide))
      rw [show i / 2 * Sxc.k PtS + i % 2 = i by show i / 2 * 2 + i % 2 = i; omega] at h
      rw [h, List.getElem?_eq_getElem (by rw [tab_len]; simpa using hj), tab_get]
      have e1 : ([a, b, c, d] ++ more).getD (i / 2) default = more.getD (i / 2 - 4) default := by
        rw [List.getD_eq_getElem?_getD, List.getD_eq_getElem?_getD, List.getElem?_append_right (by simp; omega)]; rfl
      have e2 : (i - 8) / 2 = i / 2 - 4 := by omega
      have e3 : (i - 8) % 2 = i % 2 := by omega
      rw [e1]
      simp only [List.length_cons, List.length_nil]
      show some (Sxc.cell (more.getD ((i - 8) / 2) default) ((i - 8) % 2)) = _
      rw [e2, e3]
    · rw [List.getElem?_eq_none (by rw [tab_len]; simp at hj ⊢; omega), List.getElem?_eq_none (by rw [rowL_len]; simp at hj ⊢; show _ * 2 ≤ i; omega)]
set_option maxRecDepth 100000 in
theorem rf_PointsFault {a b c d : PtS} {more : List PtS} (hm : more.length ≤ 1000) :
    SpecN Tryd.prog 9 [avPt2 a b, avPt2 c d, avL more] (fun y => y = avI (pointsE a b c d more)) := by
  refine SpecN.of_VCN Tryd.func9 rfl Tryd.ntmps9 (Nat.le_of_ble_eq_true rfl) fun w A hB => ?_
  have hnew : True := trivial
  refine VC.seq ?_
  refine VC.region ?_
  refine VO.op rfl (OpE.box rfl hB rfl rfl rfl ?_)
  intro g3
  refine VO.op rfl (OpE.box rfl hB rfl rfl rfl ?_)
  intro g4
  refine VO.val rfl rfl (OpV.move (.inr rfl) rfl) ?_
  refine VO.nil ?_
  show VC _ _ _ _ _
  refine VC.seq ?_
  refine VC.seq ?_
  refine VC.region ?_
  refine VO.val rfl rfl (OpV.indexAddr_arr rfl Tryd.underlying29 Tryd.sizeOf27 rfl rfl (by omega) (by omega)) ?_
  refine VO.val rfl rfl (OpV.loadK_own (i := 0) rfl hB Tryd.isAgg27 Tryd.sizeOf27 rfl rfl rfl (fun h => h)) ?_
  refine VO.val rfl rfl (OpV.indexAddr_arr rfl Tryd.underlying29 Tryd.sizeOf27 rfl rfl (by omega) (by omega)) ?_
  refine VO.val rfl rfl (OpV.loadK_own (i := 0) rfl hB Tryd.isAgg27 Tryd.sizeOf27 rfl rfl rfl (fun h => h)) ?_
  refine VO.val rfl rfl (OpV.indexAddr_arr rfl Tryd.underlying29 Tryd.sizeOf27 rfl rfl (by omega) (by omega)) ?_
  refine VO.val rfl rfl (OpV.loadK_own (i := 1) rfl hB Tryd.isAgg27 Tryd.sizeOf27 rfl rfl rfl (fun h => h)) ?_
  refine VO.val rfl rfl (OpV.indexAddr_arr rfl Tryd.underlying29 Tryd.sizeOf27 rfl rfl (by omega) (by omega)) ?_
  refine VO.val rfl rfl (OpV.loadK_own (i := 1) rfl hB Tryd.isAgg27 Tryd.sizeOf27 rfl rfl rfl (fun h => h)) ?_
  refine VO.op rfl (OpE.buildSliceO (zc := #[.int .i64 0, .int .i64 0, .int .i64 0, .int .i64 0, .int .i64 0, .int .i64 0, .int .i64 0, .int .i64 0]) rfl hB rfl Tryd.underlying92 Tryd.sizeOf27 Tryd.zeroValue27 (by decide) (by decide) (by kernel_rfl) rfl rfl ?_)
  intro g17
  refine VO.le _ (Le.boxRow (i := 2) (g := g17) (n := 4) (cap := 4) (sz := 2) rfl rfl (by omega) (by decide)) ?_
  refine VO.val rfl rfl (OpV.move (.inl rfl) rfl) ?_
  first
    | refine VO.op rfl (OpE.appendP (i := 0) rfl hB rfl Tryd.underlying92 (infoOf Tryd.t27 2 (by kernel_rfl) rfl rfl) rfl (by decide) (by decide) rfl rfl (.im rfl) (cell_one2 more) (by omega) (tab_more a b c d more) (fun _ _ => trivial) ?_)
    | refine VO.op rfl (OpE.appendP (i := 1) rfl hB rfl Tryd.underlying92 (infoOf Tryd.t27 2 (by kernel_rfl) rfl rfl) rfl (by decide) (by decide) rfl rfl (.im rfl) (cell_one2 more) (by omega) (tab_more a b c d more) (fun _ _ => trivial) ?_)
    | refine VO.op rfl (OpE.appendP (i := 2) rfl hB rfl Tryd.underlying92 (infoOf Tryd.t27 2 (by kernel_rfl) rfl rfl) rfl (by decide) (by decide) rfl rfl (.im rfl) (cell_one2 more) (by omega) (tab_more a b c d more) (fun _ _ => trivial) ?_)
  intro u19
  obtain ⟨l, hl, hll⟩ : ∃ l : List PtS, l = [a, b, c, d] ++ more ∧ l.length = 4 + more.length := ⟨_, rfl, by simp; omega⟩
  rw [← hl]
  refine VO.le _ (Le.rowT (xs := l) (t := 19) (i := 2) hB hnew rfl rfl (by omega)) ?_
  first
    | refine VO.val rfl rfl (OpV.len_im rfl Tryd.underlying92 rfl) ?_
    | refine VO.val rfl rfl (OpV.len_v rfl Tryd.underlying92 rfl) ?_
    | refine VO.val rfl rfl (OpV.len_row (i := 0) rfl Tryd.underlying92 rfl rfl) ?_
    | refine VO.val rfl rfl (OpV.len_row (i := 1) rfl Tryd.underlying92 rfl rfl) ?_
  refine VO.val rfl rfl (OpV.move (.inl rfl) rfl) ?_
  refine VO.nil ?_
  show VC _ _ _ _ _
  refine VC.block ?_
  refine VC.loopK [(3, _), (4, _), (19, _), (20, _)] ⟨rfl, rfl, rfl, rfl, trivial⟩ ({q : Nat // q ≤ l.length ∧ ∀ j, j < q → farP (l.getD j default) = false}) (fun (i : {q : Nat // q ≤ l.length ∧ ∀ j, j < q → farP (l.getD j default) = false}) => match i with | ⟨q, hq, hn⟩ => [(21, avI (q : Int))]) (fun (i : {q : Nat // q ≤ l.length ∧ ∀ j, j < q → farP (l.getD j default) = false}) => match i with | ⟨q, hq, hn⟩ => [.box g3 ⟨[avI a.x, avI a.y, avI b.x, avI b.y], 29, 4⟩, .box g4 ⟨[avI c.x, avI c.y, avI d.x, avI d.y], 29, 4⟩]) (fun (i : {q : Nat // q ≤ l.length ∧ ∀ j, j < q → farP (l.getD j default) = false}) => match i with | ⟨q, hq, hn⟩ => 0) (fun (i : {q : Nat // q ≤ l.length ∧ ∀ j, j < q → farP (l.getD j default) = false}) => match i with | ⟨q, hq, hn⟩ => l.length - q) ⟨0, Nat.zero_le _, fun j hj => absurd hj (Nat.not_lt_zero j)⟩ (Le.mk hB [0, 1] ⟨rfl, rfl, rfl, rfl, rfl, trivial⟩ rfl rfl (Nat.le_refl _)) ?_
  rintro ⟨q, hq, hn⟩
  show VC _ _ _ _ ⟨[(21, avI (q : Int))] ++ [(3, _), (4, _), (19, _), (20, _)], [.box g3 ⟨[avI a.x, avI a.y, avI b.x, avI b.y], 29, 4⟩, .box g4 ⟨[avI c.x, avI c.y, avI d.x, avI d.y], 29, 4⟩], 0⟩
  refine VC.seq ?_
  refine VC.region ?_
  refine VO.val rfl rfl (OpV.lss rfl rfl rfl) ?_
  refine VO.nil ?_
  show VC _ _ _ _ _
  refine VC.seq ?_
  refine VC.cond rfl (fun aH1b => ?_) (fun aH1b => ?_)
  · have aH1 := aH1b
    try simp only [decide_eq_true_eq, decide_eq_false_iff_not, Bool.not_eq_true', Bool.not_eq_false', Int.not_lt, Int.not_le] at aH1
    refine VC.skip ?_
    show VC _ _ _ _ _
    refine VC.seq ?_
    refine VC.block ?_
    refine VC.seq ?_
    refine VC.region ?_
    first
      | refine VO.val rfl rfl (OpV.indexAddr_E rfl Tryd.underlying92 Tryd.sizeOf27 rfl rfl rfl (by omega)) ?_
      | refine VO.val rfl rfl (OpV.indexAddr_E rfl Tryd.underlying92 Tryd.sizeOf27 rfl rfl (Int.toNat_of_nonneg (by omega)).symm (by omega)) ?_
      | refine VO.val rfl rfl (OpV.indexAddr_q rfl Tryd.underlying92 Tryd.sizeOf27 rfl rfl rfl (by omega)) ?_
      | refine VO.val rfl rfl (OpV.indexAddr_q rfl Tryd.underlying92 Tryd.sizeOf27 rfl rfl (Int.toNat_of_nonneg (by omega)).symm (by omega)) ?_
      | refine VO.val rfl rfl (OpV.indexAddr_im rfl Tryd.underlying92 Tryd.sizeOf27 rfl rfl (by omega) (by omega)) ?_
    first
      | refine VO.val rfl rfl (OpV.loadK_at rfl hB OutW.no Tryd.isAgg27 Tryd.sizeOf27 rfl rfl) ?_
      | refine VO.val rfl rfl (OpV.loadK_own (i := 0) rfl hB Tryd.isAgg27 Tryd.sizeOf27 rfl rfl rfl (fun h => h)) ?_
      | refine VO.val rfl rfl (OpV.loadK_own (i := 1) rfl hB Tryd.isAgg27 Tryd.sizeOf27 rfl rfl rfl (fun h => h)) ?_
    refine VO.op rfl (OpE.alloc rfl hB rfl Tryd.zeroValue27 rfl ?_)
    intro g8
    refine VO.op rfl (OpE.store (i := 2) rfl hB rfl Tryd.sizeOf27 rfl rfl rfl rfl rfl rfl (Nat.le_of_ble_eq_true rfl) trivial ?_)
    refine VO.nil ?_
    show VC _ _ _ _ _
    refine VC.seq ?_
    refine VC.region ?_
    first
      | refine VO.val rfl rfl (OpV.fieldAddr_atO 0 rfl Tryd.underlying27 rfl rfl Tryd.sizeOf3 rfl rfl) ?_
      | refine VO.val rfl rfl (OpV.fieldAddrO 0 rfl Tryd.underlying27 rfl rfl Tryd.sizeOf3 rfl) ?_
    refine VO.val rfl rfl (OpV.load_own (i := 2) rfl hB Tryd.isAgg3 rfl rfl rfl (fun h => h)) ?_
    refine VO.op rfl (OpE.call rfl hB rfl Tryd.call45 rfl (SpecN.spec (rf_in)) ?_)
    rintro _ rfl
    refine VO.val rfl rfl (OpV.not rfl rfl) ?_
    refine VO.val rfl rfl (OpV.move (.inl rfl) rfl) ?_
    refine VO.opG rfl rfl rfl rfl (fun aK2b => ?_) (fun aK2b => ?_)
    · replace aK2b : _ = false := aK2b
      have aK2 := aK2b
      try simp only [decide_eq_true_eq, decide_eq_false_iff_not, Bool.not_eq_true', Bool.not_eq_false', Int.not_lt, Int.not_le] at aK2
      first
        | refine OpE.val (W := NoB) (OpV.fieldAddr_atO 1 rfl Tryd.underlying27 rfl rfl Tryd.sizeOf3 rfl rfl) rfl ?_
        | refine OpE.val (W := NoB) (OpV.fieldAddrO 1 rfl Tryd.underlying27 rfl rfl Tryd.sizeOf3 rfl) rfl ?_
      refine VO.opY rfl rfl rfl rfl aK2b ?_
      refine OpE.val (W := NoB) (OpV.load_own (i := 2) rfl hB Tryd.isAgg3 rfl rfl rfl (fun h => h)) rfl ?_
      refine VO.opY rfl rfl rfl rfl aK2b ?_
      refine OpE.call rfl hB rfl Tryd.call45 rfl (SpecN.spec (rf_in)) ?_
      rintro _ rfl
      refine VO.opY rfl rfl rfl rfl aK2b ?_
      refine OpE.val (W := NoB) (OpV.not rfl rfl) rfl ?_
      refine VO.val rfl rfl (OpV.pickF rfl rfl rfl rfl aK2b) ?_
      refine VO.nil ?_
      show VC _ _ _ _ _
      refine VC.cond rfl (fun h1b => ?_) (fun h1b => ?_)
      · have h1 := h1b
        try simp only [decide_eq_true_eq, decide_eq_false_iff_not, Bool.not_eq_true', Bool.not_eq_false', Int.not_lt, Int.not_le] at h1
        refine VC.seq ?_
        refine VC.region ?_
        refine VO.val rfl rfl (OpV.move (.inr rfl) rfl) ?_
        refine VO.nil ?_
        show VC _ _ _ _ _
        refine VC.ret ?_
        exact Exists.intro _ (And.intro (RetN.one Tryd.results9 (ResN.v rfl)) (by first | rw [pE_m1 (q := q) hl (by omega) (farI_T (by assumption))] | rw [pE_m1 (q := q) hl (by omega) ((farI_2 (by assumption)).trans (by assumption))]))
      · have h1 := h1b
        try simp only [decide_eq_true_eq, decide_eq_false_iff_not, Bool.not_eq_true', Bool.not_eq_false', Int.not_lt, Int.not_le] at h1
        refine VC.skip ?_
        show VC _ _ _ _ _
        refine VC.region ?_
        refine VO.val rfl rfl (OpV.add rfl rfl rfl (by unfold fits; omega)) ?_
        refine VO.val rfl rfl (OpV.move (.inl rfl) rfl) ?_
        refine VO.nil ?_
        exact Exists.intro (⟨q + 1, by omega, lt_succ_cases hn ((by rw [farI_2 (by assumption)]; assumption))⟩) (And.intro (Le.mk hB [0, 1] ⟨rfl, rfl, rfl, rfl, rfl, trivial⟩ rfl rfl (Nat.le_refl _)) (by first | omega | (show _ < _; omega) | (simp only []; omega)))
    · replace aK2b : _ = true := aK2b
      have aK2 := aK2b
      try simp only [decide_eq_true_eq, decide_eq_false_iff_not, Bool.not_eq_true', Bool.not_eq_false', Int.not_lt, Int.not_le] at aK2
      refine VO.opX rfl rfl rfl rfl aK2b ?_
      refine VO.opX rfl rfl rfl rfl aK2b ?_
      refine VO.opX rfl rfl rfl rfl aK2b ?_
      refine VO.val rfl rfl (OpV.pickT rfl rfl rfl rfl aK2b) ?_
      refine VO.nil ?_
      show VC _ _ _ _ _
      refine VC.condT rfl rfl ?_
      refine VC.seq ?_
      refine VC.region ?_
      refine VO.val rfl rfl (OpV.move (.inr rfl) rfl) ?_
      refine VO.nil ?_
      show VC _ _ _ _ _
      refine VC.ret ?_
      exact Exists.intro _ (And.intro (RetN.one Tryd.results9 (ResN.v rfl)) (by first | rw [pE_m1 (q := q) hl (by omega) (farI_T (by assumption))] | rw [pE_m1 (q := q) hl (by omega) ((farI_2 (by assumption)).trans (by assumption))]))
  · have aH1 := aH1b
    try simp only [decide_eq_true_eq, decide_eq_false_iff_not, Bool.not_eq_true', Bool.not_eq_false', Int.not_lt, Int.not_le] at aH1
    refine VC.exit ?_
    show VC _ _ _ _ _
    refine VC.seq ?_
    refine VC.seq ?_
    refine VC.region ?_
    refine VO.val rfl rfl (OpV.indexAddr_arr rfl Tryd.underlying29 Tryd.sizeOf27 rfl rfl (by omega) (by omega)) ?_
    first
      | refine VO.val rfl rfl (OpV.loadK_at rfl hB OutW.no Tryd.isAgg27 Tryd.sizeOf27 rfl rfl) ?_
      | refine VO.val rfl rfl (OpV.loadK_own (i := 0) rfl hB Tryd.isAgg27 Tryd.sizeOf27 rfl rfl rfl (fun h => h)) ?_
      | refine VO.val rfl rfl (OpV.loadK_own (i := 1) rfl hB Tryd.isAgg27 Tryd.sizeOf27 rfl rfl rfl (fun h => h)) ?_
    refine VO.val rfl rfl (OpV.indexAddr_arr rfl Tryd.underlying29 Tryd.sizeOf27 rfl rfl (by omega) (by omega)) ?_
    first
      | refine VO.val rfl rfl (OpV.loadK_at rfl hB OutW.no Tryd.isAgg27 Tryd.sizeOf27 rfl rfl) ?_
      | refine VO.val rfl rfl (OpV.loadK_own (i := 0) rfl hB Tryd.isAgg27 Tryd.sizeOf27 rfl rfl rfl (fun h => h)) ?_
      | refine VO.val rfl rfl (OpV.loadK_own (i := 1) rfl hB Tryd.isAgg27 Tryd.sizeOf27 rfl rfl rfl (fun h => h)) ?_
    refine VO.val rfl rfl (OpV.aeql rfl Tryd.underlying27 (by kernel_rfl) (by kernel_rfl) rfl rfl (EqFs.int Tryd.underlying3 Tryd.isAgg3 rfl (by decide) (EqFs.int Tryd.underlying3 Tryd.isAgg3 rfl (by decide) (EqFs.nil _)))) ?_
    refine VO.val rfl rfl (OpV.move (.inl rfl) rfl) ?_
    refine VO.opG rfl rfl rfl rfl (fun aK3b => ?_) (fun aK3b => ?_)
    · replace aK3b : _ = false := aK3b
      have aK3 := aK3b
      try simp only [decide_eq_true_eq, decide_eq_false_iff_not, Bool.not_eq_true', Bool.not_eq_false', Int.not_lt, Int.not_le] at aK3
      refine OpE.val (W := NoB) (OpV.indexAddr_arr rfl Tryd.underlying29 Tryd.sizeOf27 rfl rfl (by omega) (by omega)) rfl ?_
      refine VO.opY rfl rfl rfl rfl aK3b ?_
      first
        | refine OpE.val (W := NoB) (OpV.loadK_at rfl hB OutW.no Tryd.isAgg27 Tryd.sizeOf27 rfl rfl) rfl ?_
        | refine OpE.val (W := NoB) (OpV.loadK_own (i := 0) rfl hB Tryd.isAgg27 Tryd.sizeOf27 rfl rfl rfl (fun h => h)) rfl ?_
        | refine OpE.val (W := NoB) (OpV.loadK_own (i := 1) rfl hB Tryd.isAgg27 Tryd.sizeOf27 rfl rfl rfl (fun h => h)) rfl ?_
      refine VO.opY rfl rfl rfl rfl aK3b ?_
      refine OpE.val (W := NoB) (OpV.indexAddr_arr rfl Tryd.underlying29 Tryd.sizeOf27 rfl rfl (by omega) (by omega)) rfl ?_
      refine VO.opY rfl rfl rfl rfl aK3b ?_
      first
        | refine OpE.val (W := NoB) (OpV.loadK_at rfl hB OutW.no Tryd.isAgg27 Tryd.sizeOf27 rfl rfl) rfl ?_
        | refine OpE.val (W := NoB) (OpV.loadK_own (i := 0) rfl hB Tryd.isAgg27 Tryd.sizeOf27 rfl rfl rfl (fun h => h)) rfl ?_
        | refine OpE.val (W := NoB) (OpV.loadK_own (i := 1) rfl hB Tryd.isAgg27 Tryd.sizeOf27 rfl rfl rfl (fun h => h)) rfl ?_
      refine VO.opY rfl rfl rfl rfl aK3b ?_
      refine OpE.val (W := NoB) (OpV.aeql rfl Tryd.underlying27 (by kernel_rfl) (by kernel_rfl) rfl rfl (EqFs.int Tryd.underlying3 Tryd.isAgg3 rfl (by decide) (EqFs.int Tryd.underlying3 Tryd.isAgg3 rfl (by decide) (EqFs.nil _)))) rfl ?_
      refine VO.val rfl rfl (OpV.pickF rfl rfl rfl rfl aK3b) ?_
      refine VO.nil ?_
      show VC _ _ _ _ _
      refine VC.cond rfl (fun h2b => ?_) (fun h2b => ?_)
      · have h2 := h2b
        try simp only [decide_eq_true_eq, decide_eq_false_iff_not, Bool.not_eq_true', Bool.not_eq_false', Int.not_lt, Int.not_le] at h2
        refine VC.seq ?_
        refine VC.region ?_
        refine VO.val rfl rfl (OpV.move (.inr rfl) rfl) ?_
        refine VO.nil ?_
        show VC _ _ _ _ _
        refine VC.ret ?_
        exact Exists.intro _ (And.intro (RetN.one Tryd.results9 (ResN.v rfl)) (by rw [pE_mn hl (by omega) hn, if_pos (by simp_all [ptEq])]))
      · have h2 := h2b
        try simp only [decide_eq_true_eq, decide_eq_false_iff_not, Bool.not_eq_true', Bool.not_eq_false', Int.not_lt, Int.not_le] at h2
        refine VC.skip ?_
        show VC _ _ _ _ _
        refine VC.seq ?_
        refine VC.region ?_
        refine VO.val rfl rfl (OpV.move (.inr rfl) rfl) ?_
        refine VO.nil ?_
        show VC _ _ _ _ _
        refine VC.ret ?_
        exact Exists.intro _ (And.intro (RetN.one Tryd.results9 (ResN.v rfl)) (by rw [pE_mn hl (by omega) hn, if_neg (by simp_all [ptEq])]))
    · replace aK3b : _ = true := aK3b
      have aK3 := aK3b
      try simp only [decide_eq_true_eq, decide_eq_false_iff_not, Bool.not_eq_true', Bool.not_eq_false', Int.not_lt, Int.not_le] at aK3
      refine VO.opX rfl rfl rfl rfl aK3b ?_
      refine VO.opX rfl rfl rfl rfl aK3b ?_
      refine VO.opX rfl rfl rfl rfl aK3b ?_
      refine VO.opX rfl rfl rfl rfl aK3b ?_
      refine VO.val rfl rfl (OpV.pickT rfl rfl rfl rfl aK3b) ?_
      refine VO.nil ?_
      show VC _ _ _ _ _
      refine VC.condT rfl rfl ?_
      refine VC.seq ?_
      refine VC.region ?_
      refine VO.val rfl rfl (OpV.move (.inr rfl) rfl) ?_
      refine VO.nil ?_
      show VC _ _ _ _ _
      refine VC.ret ?_
      exact Exists.intro _ (And.intro (RetN.one Tryd.results9 (ResN.v rfl)) (by rw [pE_mn hl (by omega) hn, if_pos (by simp_all [ptEq])]))
set_option maxRecDepth 100000 in
theorem kit_Lowest {a b : Nat} (ha : a ≤ 4000000000000000000) (hb : b ≤ 4000000000000000000) (h0 : 0 < b) :
    SpecN Tryd.prog 44 [avI (a : Int), avI (b : Int)] (fun y => y = .agg [avI ((a / Nat.gcd a b : Nat) : Int), avI ((b / Nat.gcd a b : Nat) : Int)]) := by
  refine SpecN.of_VCN Tryd.func44 rfl Tryd.ntmps44 (Nat.le_of_ble_eq_true rfl) fun w A hB => ?_
  have hnew : True := trivial
  refine VC.seq ?_
  refine VC.region ?_
  refine VO.op rfl (OpE.alloc rfl hB rfl Tryd.zeroValue34 rfl ?_)
  intro g4
  refine VO.nil ?_
  show VC _ _ _ _ _
  refine VC.seq ?_
  refine VC.region ?_
  refine VO.val rfl rfl (OpV.move (.inl rfl) rfl) ?_
  refine VO.val rfl rfl (OpV.move (.inl rfl) rfl) ?_
  refine VO.val rfl rfl (OpV.move (.inr rfl) rfl) ?_
  refine VO.val rfl rfl (OpV.move (.inr rfl) rfl) ?_
  refine VO.nil ?_
  show VC _ _ _ _ _
  refine VC.seq ?_
  refine VC.block ?_
  refine VC.loopK [(0, _), (1, _), (4, _)] ⟨rfl, rfl, rfl, trivial⟩ ({z : Nat × Nat // Nat.gcd z.1 z.2 = Nat.gcd a b ∧ z.1 ≤ 4000000000000000000 ∧ z.2 ≤ 4000000000000000000}) (fun (i : {z : Nat × Nat // Nat.gcd z.1 z.2 = Nat.gcd a b ∧ z.1 ≤ 4000000000000000000 ∧ z.2 ≤ 4000000000000000000}) => match i with | ⟨⟨x, y⟩, hg, hx, hy⟩ => [(5, avI (x : Int)), (6, avI (y : Int))]) (fun (i : {z : Nat × Nat // Nat.gcd z.1 z.2 = Nat.gcd a b ∧ z.1 ≤ 4000000000000000000 ∧ z.2 ≤ 4000000000000000000}) => match i with | ⟨⟨x, y⟩, hg, hx, hy⟩ => [.box g4 ⟨[avI 0, avI 0], 34, 2⟩]) (fun (i : {z : Nat × Nat // Nat.gcd z.1 z.2 = Nat.gcd a b ∧ z.1 ≤ 4000000000000000000 ∧ z.2 ≤ 4000000000000000000}) => match i with | ⟨⟨x, y⟩, hg, hx, hy⟩ => 0) (fun (i : {z : Nat × Nat // Nat.gcd z.1 z.2 = Nat.gcd a b ∧ z.1 ≤ 4000000000000000000 ∧ z.2 ≤ 4000000000000000000}) => match i with | ⟨⟨x, y⟩, hg, hx, hy⟩ => y) ⟨(a, b), rfl, ha, hb⟩ (Le.mk hB [0] ⟨rfl, rfl, rfl, rfl, rfl, trivial⟩ rfl rfl (Nat.le_refl _)) ?_
  rintro ⟨⟨x, y⟩, hg, hx, hy⟩
  show VC _ _ _ _ ⟨[(5, avI (x : Int)), (6, avI (y : Int))] ++ [(0, _), (1, _), (4, _)], [.box g4 ⟨[avI 0, avI 0], 34, 2⟩], 0⟩
  simp only at hg hx hy
  refine VC.seq ?_
  refine VC.seq ?_
  refine VC.region ?_
  refine VO.val rfl rfl (OpV.move (.inl rfl) rfl) ?_
  refine VO.val rfl rfl (OpV.neq rfl rfl rfl) ?_
  refine VO.nil ?_
  show VC _ _ _ _ _
  refine VC.cond rfl (fun h1b => ?_) (fun h1b => ?_)
  · have h1 := h1b
    try simp only [decide_eq_true_eq, decide_eq_false_iff_not, Bool.not_eq_true', Bool.not_eq_false', Int.not_lt, Int.not_le] at h1
    refine VC.skip ?_
    show VC _ _ _ _ _
    refine VC.block ?_
    refine VC.draw (fun _ => NoB) hB (by kernel_rfl) ?_
    refine VA.take (i := 0) rfl (by kernel_rfl) (by kernel_rfl) (by kernel_rfl) rfl rfl (OpV.move (.inl rfl) rfl) ?_
    refine VA.take (i := 1) rfl (by kernel_rfl) (by kernel_rfl) (by kernel_rfl) rfl rfl (OpV.move (.inl rfl) rfl) ?_
    refine VA.take (i := 2) rfl (by kernel_rfl) (by kernel_rfl) (by kernel_rfl) rfl rfl (OpV.move (.inl rfl) rfl) ?_
    refine VA.take (i := 3) rfl (by kernel_rfl) (by kernel_rfl) (by kernel_rfl) rfl rfl (OpV.rem rfl rfl rfl (by omega) (by have h2 := tmod_bd (a := (x : Int)) (b := (y : Int)) (M := 4000000000000000000) (by omega); unfold fits; omega)) ?_
    refine VA.take (i := 4) rfl (by kernel_rfl) (by kernel_rfl) (by kernel_rfl) rfl rfl (OpV.move (.inr rfl) rfl) ?_
    refine VA.take (i := 5) rfl (by kernel_rfl) (by kernel_rfl) (by kernel_rfl) rfl rfl (OpV.move (.inr rfl) rfl) ?_
    refine VA.done (by kernel_rfl) ?_
    have hmd := Nat.mod_lt x (by omega : y > 0)
    exact Exists.intro (⟨(y, x % y), by show Nat.gcd y (x % y) = _; rw [← hg, Nat.gcd_comm y, ← Nat.gcd_rec, Nat.gcd_comm], hy, by have := Nat.mod_lt x (by omega : y > 0); show x % y ≤ _; omega⟩) (And.intro (Le.mk hB [0] ⟨rfl, rfl, rfl, rfl, rfl, trivial⟩ rfl rfl (Nat.le_refl _)) (by first | omega | (show _ < _; omega) | (simp only []; omega)))
  · have h1 := h1b
    try simp only [decide_eq_true_eq, decide_eq_false_iff_not, Bool.not_eq_true', Bool.not_eq_false', Int.not_lt, Int.not_le] at h1
    obtain rfl : y = 0 := by omega
    rw [Nat.gcd_zero_right] at hg
    have hx0 := Nat.gcd_pos_of_pos_right a h0
    subst hg
    refine VC.exit ?_
    show VC _ _ _ _ _
    refine VC.seq ?_
    refine VC.draw (fun j b => j = 7 ∧ b = g4) hB (by kernel_rfl) ?_
    refine VA.take (i := 0) rfl (by kernel_rfl) (by kernel_rfl) (by kernel_rfl) rfl rfl (OpV.move (.inl rfl) rfl) ?_
    refine VA.take (i := 1) rfl (by kernel_rfl) (by kernel_rfl) (by kernel_rfl) rfl rfl (OpV.move (.inl rfl) rfl) ?_
    refine VA.take (i := 2) rfl (by kernel_rfl) (by kernel_rfl) (by kernel_rfl) rfl rfl (OpV.quo rfl rfl rfl (by omega) (by have h1 := tdiv_bd (a := (a : Int)) (b := (Nat.gcd a b : Int)) (M := 4000000000000000000) (by omega); have h2 := tdiv_bd (a := (b : Int)) (b := (Nat.gcd a b : Int)) (M := 4000000000000000000) (by omega); unfold fits; omega)) ?_
    refine VA.take (i := 3) rfl (by kernel_rfl) (by kernel_rfl) (by kernel_rfl) rfl rfl (OpV.move (.inl rfl) rfl) ?_
    refine VA.take (i := 4) rfl (by kernel_rfl) (by kernel_rfl) (by kernel_rfl) rfl rfl (OpV.move (.inl rfl) rfl) ?_
    refine VA.take (i := 5) rfl (by kernel_rfl) (by kernel_rfl) (by kernel_rfl) rfl rfl (OpV.quo rfl rfl rfl (by omega) (by have h1 := tdiv_bd (a := (a : Int)) (b := (Nat.gcd a b : Int)) (M := 4000000000000000000) (by omega); have h2 := tdiv_bd (a := (b : Int)) (b := (Nat.gcd a b : Int)) (M := 4000000000000000000) (by omega); unfold fits; omega)) ?_
    refine VA.take (i := 6) rfl (by kernel_rfl) (by kernel_rfl) (by kernel_rfl) rfl rfl (OpV.build (pls := #[(0, 1), (1, 1)]) rfl Tryd.zeroValue34 Tryd.underlying34 (fun w => by kernel_rfl) rfl rfl) ?_
    refine VA.all (rs := [7]) (by kernel_rfl) (by decide) ?_
    refine ⟨⟨_, rfl, .inl rfl, ?_⟩, trivial⟩
    refine OpE.store (i := 0) rfl hB rfl Tryd.sizeOf34 rfl rfl rfl rfl rfl rfl (Nat.le_of_ble_eq_true rfl) (by first | exact ⟨rfl, rfl⟩ | exact .inl ⟨rfl, rfl⟩ | exact .inr ⟨rfl, rfl⟩ | exact ⟨rfl, trivial⟩ | exact .inl ⟨rfl, trivial⟩ | exact .inr ⟨rfl, trivial⟩) ?_
    refine VA.done (by kernel_rfl) ?_
    show VC _ _ _ _ _
    refine VC.ret ?_
    exact Exists.intro _ (And.intro (RetN.one Tryd.results44 ((by first | exact ResN.cellF (i := 0) Tryd.isAgg34 Tryd.sizeOf34 rfl rfl rfl (flat_ofB rfl)))) (rfl))
set_option maxRecDepth 100000 in
theorem rf_divisor {a b : Nat} (ha : a ≤ 4000000000000000000) (hb : b ≤ 4000000000000000000) (h0 : 0 < b) :
    SpecN Tryd.prog 67 [avI (a : Int), avI (b : Int)] (fun y => y = avI (Nat.gcd a b : Int)) := by
  refine SpecN.of_VCN Tryd.func67 rfl Tryd.ntmps67 (Nat.le_of_ble_eq_true rfl) fun w A hB => ?_
  have hnew : True := trivial
  refine VC.seq ?_
  refine VC.region ?_
  refine VO.val rfl rfl (OpV.move (.inr rfl) rfl) ?_
  refine VO.nil ?_
  show VC _ _ _ _ _
  refine VC.seq ?_
  refine VC.block ?_
  refine VC.loopK [] trivial ({z : Nat × Nat // Nat.gcd z.1 z.2 = Nat.gcd a b ∧ z.1 ≤ 4000000000000000000 ∧ z.2 ≤ 4000000000000000000}) (fun (i : {z : Nat × Nat // Nat.gcd z.1 z.2 = Nat.gcd a b ∧ z.1 ≤ 4000000000000000000 ∧ z.2 ≤ 4000000000000000000}) => match i with | ⟨⟨x, y⟩, hg, hx, hy⟩ => [(0, avI (x : Int)), (1, avI (y : Int))]) (fun (i : {z : Nat × Nat // Nat.gcd z.1 z.2 = Nat.gcd a b ∧ z.1 ≤ 4000000000000000000 ∧ z.2 ≤ 4000000000000000000}) => match i with | ⟨⟨x, y⟩, hg, hx, hy⟩ => []) (fun (i : {z : Nat × Nat // Nat.gcd z.1 z.2 = Nat.gcd a b ∧ z.1 ≤ 4000000000000000000 ∧ z.2 ≤ 4000000000000000000}) => match i with | ⟨⟨x, y⟩, hg, hx, hy⟩ => 0) (fun (i : {z : Nat × Nat // Nat.gcd z.1 z.2 = Nat.gcd a b ∧ z.1 ≤ 4000000000000000000 ∧ z.2 ≤ 4000000000000000000}) => match i with | ⟨⟨x, y⟩, hg, hx, hy⟩ => y) ⟨(a, b), rfl, ha, hb⟩ (Le.mk hB [] ⟨rfl, rfl, trivial⟩ rfl rfl (Nat.le_refl _)) ?_
  rintro ⟨⟨x, y⟩, hg, hx, hy⟩
  show VC _ _ _ _ ⟨[(0, avI (x : Int)), (1, avI (y : Int))] ++ [], [], 0⟩
  simp only at hg hx hy
  refine VC.seq ?_
  refine VC.seq ?_
  refine VC.region ?_
  refine VO.val rfl rfl (OpV.move (.inl rfl) rfl) ?_
  refine VO.val rfl rfl (OpV.neq rfl rfl rfl) ?_
  refine VO.nil ?_
  show VC _ _ _ _ _
  refine VC.cond rfl (fun h1b => ?_) (fun h1b => ?_)
  · have h1 := h1b
    try simp only [decide_eq_true_eq, decide_eq_false_iff_not, Bool.not_eq_true', Bool.not_eq_false', Int.not_lt, Int.not_le] at h1
    refine VC.skip ?_
    show VC _ _ _ _ _
    refine VC.block ?_
    refine VC.draw (fun _ => NoB) hB (by kernel_rfl) ?_
    refine VA.take (i := 0) rfl (by kernel_rfl) (by kernel_rfl) (by kernel_rfl) rfl rfl (OpV.move (.inl rfl) rfl) ?_
    refine VA.take (i := 1) rfl (by kernel_rfl) (by kernel_rfl) (by kernel_rfl) rfl rfl (OpV.move (.inl rfl) rfl) ?_
    refine VA.take (i := 2) rfl (by kernel_rfl) (by kernel_rfl) (by kernel_rfl) rfl rfl (OpV.move (.inl rfl) rfl) ?_
    refine VA.take (i := 3) rfl (by kernel_rfl) (by kernel_rfl) (by kernel_rfl) rfl rfl (OpV.rem rfl rfl rfl (by omega) (by have h2 := tmod_bd (a := (x : Int)) (b := (y : Int)) (M := 4000000000000000000) (by omega); unfold fits; omega)) ?_
    refine VA.take (i := 4) rfl (by kernel_rfl) (by kernel_rfl) (by kernel_rfl) rfl rfl (OpV.move (.inr rfl) rfl) ?_
    refine VA.take (i := 5) rfl (by kernel_rfl) (by kernel_rfl) (by kernel_rfl) rfl rfl (OpV.move (.inr rfl) rfl) ?_
    refine VA.done (by kernel_rfl) ?_
    have hmd := Nat.mod_lt x (by omega : y > 0)
    exact Exists.intro (⟨(y, x % y), by show Nat.gcd y (x % y) = _; rw [← hg, Nat.gcd_comm y, ← Nat.gcd_rec, Nat.gcd_comm], hy, by have := Nat.mod_lt x (by omega : y > 0); show x % y ≤ _; omega⟩) (And.intro (Le.mk hB [] ⟨rfl, rfl, trivial⟩ rfl rfl (Nat.le_refl _)) (by first | omega | (show _ < _; omega) | (simp only []; omega)))
  · have h1 := h1b
    try simp only [decide_eq_true_eq, decide_eq_false_iff_not, Bool.not_eq_true', Bool.not_eq_false', Int.not_lt, Int.not_le] at h1
    obtain rfl : y = 0 := by omega
    rw [Nat.gcd_zero_right] at hg
    subst hg
    refine VC.exit ?_
    show VC _ _ _ _ _
    refine VC.seq ?_
    refine VC.region ?_
    refine VO.val rfl rfl (OpV.move (.inl rfl) rfl) ?_
    refine VO.val rfl rfl (OpV.move (.inl rfl) rfl) ?_
    refine VO.val rfl rfl (OpV.neg rfl rfl (by unfold fits; omega)) ?_
    refine VO.val rfl rfl (OpV.max2 rfl rfl rfl) ?_
    refine VO.val rfl rfl (OpV.move (.inr rfl) rfl) ?_
    refine VO.nil ?_
    show VC _ _ _ _ _
    refine VC.ret ?_
    exact Exists.intro _ (And.intro (RetN.one Tryd.results67 (ResN.v rfl)) (by rw [show max ((Nat.gcd a b : Nat) : Int) (-((Nat.gcd a b : Nat) : Int)) = (Nat.gcd a b : Int) by omega]))
set_option maxRecDepth 100000 in
theorem rf_Lowest {a b : Nat} (ha : a ≤ 4000000000000000000) (hb : b ≤ 4000000000000000000) (h0 : 0 < b) :
    SpecN Tryd.prog 49 [avI (a : Int), avI (b : Int)] (fun y => y = .agg [avI ((a / Nat.gcd a b : Nat) : Int), avI ((b / Nat.gcd a b : Nat) : Int)]) := by
  refine SpecN.of_VCN Tryd.func49 rfl Tryd.ntmps49 (Nat.le_of_ble_eq_true rfl) fun w A hB => ?_
  have hnew : True := trivial
  refine VC.seq ?_
  refine VC.region ?_
  refine VO.op rfl (OpE.alloc rfl hB rfl Tryd.zeroValue34 rfl ?_)
  intro g4
  refine VO.nil ?_
  show VC _ _ _ _ _
  refine VC.seq ?_
  have hx0 := Nat.gcd_pos_of_pos_right a h0
  refine VC.region ?_
  refine VO.val rfl rfl (OpV.move (.inl rfl) rfl) ?_
  refine VO.val rfl rfl (OpV.move (.inl rfl) rfl) ?_
  refine VO.op rfl (OpE.call rfl hB rfl Tryd.call67 rfl (SpecN.spec (rf_divisor ha hb h0)) ?_)
  rintro _ rfl
  refine VO.val rfl rfl (OpV.move (.inr rfl) rfl) ?_
  refine VO.nil ?_
  show VC _ _ _ _ _
  refine VC.seq ?_
  refine VC.draw (fun j b => j = 7 ∧ b = g4) hB (by kernel_rfl) ?_
  refine VA.take (i := 0) rfl (by kernel_rfl) (by kernel_rfl) (by kernel_rfl) rfl rfl (OpV.move (.inl rfl) rfl) ?_
  refine VA.take (i := 1) rfl (by kernel_rfl) (by kernel_rfl) (by kernel_rfl) rfl rfl (OpV.move (.inl rfl) rfl) ?_
  refine VA.take (i := 2) rfl (by kernel_rfl) (by kernel_rfl) (by kernel_rfl) rfl rfl (OpV.quo rfl rfl rfl (by omega) (by have h1 := tdiv_bd (a := (a : Int)) (b := (Nat.gcd a b : Int)) (M := 4000000000000000000) (by omega); have h2 := tdiv_bd (a := (b : Int)) (b := (Nat.gcd a b : Int)) (M := 4000000000000000000) (by omega); unfold fits; omega)) ?_
  refine VA.take (i := 3) rfl (by kernel_rfl) (by kernel_rfl) (by kernel_rfl) rfl rfl (OpV.move (.inl rfl) rfl) ?_
  refine VA.take (i := 4) rfl (by kernel_rfl) (by kernel_rfl) (by kernel_rfl) rfl rfl (OpV.move (.inl rfl) rfl) ?_
  refine VA.take (i := 5) rfl (by kernel_rfl) (by kernel_rfl) (by kernel_rfl) rfl rfl (OpV.quo rfl rfl rfl (by omega) (by have h1 := tdiv_bd (a := (a : Int)) (b := (Nat.gcd a b : Int)) (M := 4000000000000000000) (by omega); have h2 := tdiv_bd (a := (b : Int)) (b := (Nat.gcd a b : Int)) (M := 4000000000000000000) (by omega); unfold fits; omega)) ?_
  refine VA.take (i := 6) rfl (by kernel_rfl) (by kernel_rfl) (by kernel_rfl) rfl rfl (OpV.build (pls := #[(0, 1), (1, 1)]) rfl Tryd.zeroValue34 Tryd.underlying34 (fun w => by kernel_rfl) rfl rfl) ?_
  refine VA.all (rs := [7]) (by kernel_rfl) (by decide) ?_
  refine ⟨⟨_, rfl, .inl rfl, ?_⟩, trivial⟩
  refine OpE.store (i := 0) rfl hB rfl Tryd.sizeOf34 rfl rfl rfl rfl rfl rfl (Nat.le_of_ble_eq_true rfl) (by first | exact ⟨rfl, rfl⟩ | exact .inl ⟨rfl, rfl⟩ | exact .inr ⟨rfl, rfl⟩ | exact ⟨rfl, trivial⟩ | exact .inl ⟨rfl, trivial⟩ | exact .inr ⟨rfl, trivial⟩) ?_
  refine VA.done (by kernel_rfl) ?_
  show VC _ _ _ _ _
  refine VC.ret ?_
  exact Exists.intro _ (And.intro (RetN.one Tryd.results49 ((by first | exact ResN.cellF (i := 0) Tryd.isAgg34 Tryd.sizeOf34 rfl rfl rfl (flat_ofB rfl)))) (rfl))
end Go.Proofs.YtgikefjbdhnffaaDoor
