/- Walk: package panel counts parts. -/
import Derived.Test.YtgikefjbdhnffaaDoorNeedS
import Derived.Test.YtgikefjbdhnffaaDoorLaw0
namespace Go.Proofs.YtgikefjbdhnffaaDoor
open Go.RowKit
set_option linter.unusedVariables false
set_option linter.unusedSimpArgs false
def panL : List PlaceS := [⟨⟨#[99]⟩, ⟨#[99, 97, 112]⟩, 0, 0, 0⟩]
def panP : ProdS := ⟨⟨#[112]⟩, 5, 5, panL⟩
theorem panP_sm : SmP panP := ⟨by decide, by decide, fun i => by
  match i with
  | 0 => decide
  | i + 1 => simp [panP, panL]; decide, fun i => by
  match i with
  | 0 => decide
  | i + 1 => simp [panP, panL]; decide⟩
theorem panP_ok : prodF panP = 0 := by decide +kernel
theorem panP_cnt : cntP panL = [(⟨#[99, 97, 112]⟩, 1)] := by decide +kernel
theorem panP_keys : sKeys [((⟨#[99, 97, 112]⟩ : ByteArray), (1 : Int))] = [⟨#[99, 97, 112]⟩] := by simp [sKeys, bytesOf]
theorem panP_needs : needsR panP = [⟨⟨#[99, 97, 112]⟩, 1⟩] := by
  rw [needsR, if_pos panP_ok, needsL]
  show List.map _ (sKeys (cntP panL)) = _
  rw [panP_cnt, panP_keys]
  simp [panP, panP_cnt, mgetD, mget]
set_option maxRecDepth 100000 in
theorem rf_paneled   :
    SpecN Tryd.prog 12 [] (fun y => y = avB true) := by
  refine SpecN.of_VCN Tryd.func12 rfl Tryd.ntmps12 (Nat.le_of_ble_eq_true rfl) fun w A hB => ?_
  have hnew : True := trivial
  refine VC.seq ?_
  refine VC.region ?_
  refine VO.val rfl rfl (OpV.move (.inr rfl) rfl) ?_
  refine VO.nil ?_
  show VC _ _ _ _ _
  refine VC.seq ?_
  refine VC.region ?_
  refine VO.val rfl rfl (OpV.build (pls := #[(0, 1), (1, 1), (2, 1), (3, 1), (4, 1)]) rfl Tryd.zeroValue100 Tryd.underlying100 (fun w => by kernel_rfl) rfl rfl) ?_
  refine VO.op rfl (OpE.buildSlice (zc := #[.string ⟨#[]⟩, .string ⟨#[]⟩, .int .i64 0, .int .i64 0, .int .i64 0]) rfl hB rfl Tryd.underlying42 Tryd.sizeOf100 Tryd.zeroValue100 (by decide) (by decide) (by kernel_rfl) rfl rfl ?_)
  refine VO.le _ (Le.recast (t := 5) (y := avL panL) rfl (fun w Z u h => Rep.rowL (xs := panL) rfl h)) ?_
  refine VO.val rfl rfl (OpV.build (pls := #[(0, 1), (1, 1), (2, 1), (3, 1)]) rfl Tryd.zeroValue44 Tryd.underlying44 (fun w => by kernel_rfl) rfl rfl) ?_
  refine VO.op rfl (OpE.call rfl hB rfl Tryd.call50 rfl (SpecN.spec (panel_Needs (p := panP) panP_sm)) ?_)
  rintro _ rfl
  refine VO.le _ (Le.recast (t := 7) (y := .tup [avL ([⟨⟨#[99, 97, 112]⟩, 1⟩] : List NeedS), avI 0]) rfl (fun w Z u h => by rw [← panP_needs, ← panP_ok]; exact h)) ?_
  refine VO.val rfl rfl (OpV.move (.inl rfl) rfl) ?_
  first
    | refine VO.val rfl rfl (OpV.extract rfl rfl rfl) ?_
    | refine VO.val rfl rfl (OpV.extract_v rfl rfl rfl) ?_
  first
    | refine VO.val rfl rfl (OpV.extract rfl rfl rfl) ?_
    | refine VO.val rfl rfl (OpV.extract_v rfl rfl rfl) ?_
  refine VO.val rfl rfl (OpV.move (.inr rfl) rfl) ?_
  refine VO.val rfl rfl (OpV.move (.inr rfl) rfl) ?_
  refine VO.nil ?_
  show VC _ _ _ _ _
  refine VC.seq ?_
  refine VC.region ?_
  refine VO.val rfl rfl (OpV.move (.inl rfl) rfl) ?_
  refine VO.val rfl rfl (OpV.eql rfl rfl rfl) ?_
  refine VO.le _ (Le.boolT (t := 11) rfl (decide_eq_true rfl)) ?_
  refine VO.val rfl rfl (OpV.move (.inl rfl) rfl) ?_
  refine VO.opY rfl rfl rfl rfl rfl ?_
  refine OpE.val (W := NoB) (OpV.move (.inl rfl) rfl) rfl ?_
  refine VO.opY rfl rfl rfl rfl rfl ?_
  first
    | refine OpE.val (W := NoB) (OpV.len_im rfl Tryd.underlying96 rfl) rfl ?_
    | refine OpE.val (W := NoB) (OpV.len_v rfl Tryd.underlying96 rfl) rfl ?_
  refine VO.opY rfl rfl rfl rfl rfl ?_
  refine OpE.val (W := NoB) (OpV.eql rfl rfl rfl) rfl ?_
  refine VO.le _ (Le.boolT (t := 15) rfl (decide_eq_true rfl)) ?_
  refine VO.val rfl rfl (OpV.pickT rfl rfl rfl rfl rfl) ?_
  refine VO.val rfl rfl (OpV.move (.inl rfl) rfl) ?_
  refine VO.opY rfl rfl rfl rfl rfl ?_
  refine OpE.val (W := NoB) (OpV.move (.inl rfl) rfl) rfl ?_
  refine VO.opY rfl rfl rfl rfl rfl ?_
  first
    | refine OpE.val (W := NoB) (OpV.indexAddr_E rfl Tryd.underlying96 Tryd.sizeOf102 rfl rfl rfl (by show 0 < 1; decide)) rfl ?_
    | refine OpE.val (W := NoB) (OpV.indexAddr_E rfl Tryd.underlying96 Tryd.sizeOf102 rfl rfl (Int.toNat_of_nonneg (by omega)).symm (by show 0 < 1; decide)) rfl ?_
    | refine OpE.val (W := NoB) (OpV.indexAddr_q rfl Tryd.underlying96 Tryd.sizeOf102 rfl rfl rfl (by show 0 < 1; decide)) rfl ?_
    | refine OpE.val (W := NoB) (OpV.indexAddr_q rfl Tryd.underlying96 Tryd.sizeOf102 rfl rfl (Int.toNat_of_nonneg (by omega)).symm (by show 0 < 1; decide)) rfl ?_
    | refine OpE.val (W := NoB) (OpV.indexAddr_im rfl Tryd.underlying96 Tryd.sizeOf102 rfl rfl (by omega) (by show 0 < 1; decide)) rfl ?_
  refine VO.opY rfl rfl rfl rfl rfl ?_
  first
    | refine OpE.val (W := NoB) (OpV.fieldAddr_atO 1 rfl Tryd.underlying102 rfl rfl Tryd.sizeOf3 rfl rfl) rfl ?_
    | refine OpE.val (W := NoB) (OpV.fieldAddrO 1 rfl Tryd.underlying102 rfl rfl Tryd.sizeOf3 rfl) rfl ?_
  refine VO.opY rfl rfl rfl rfl rfl ?_
  refine OpE.val (W := NoB) (OpV.load_at rfl hB OutW.no Tryd.isAgg3 rfl rfl) rfl ?_
  refine VO.opY rfl rfl rfl rfl rfl ?_
  refine OpE.val (W := NoB) (OpV.eql rfl rfl rfl) rfl ?_
  refine VO.le _ (Le.boolT (t := 22) rfl (decide_eq_true rfl)) ?_
  refine VO.val rfl rfl (OpV.pickT rfl rfl rfl rfl rfl) ?_
  refine VO.val rfl rfl (OpV.move (.inr rfl) rfl) ?_
  refine VO.nil ?_
  show VC _ _ _ _ _
  refine VC.ret ?_
  exact Exists.intro _ (And.intro (RetN.one Tryd.results12 (ResN.v rfl)) (rfl))
end Go.Proofs.YtgikefjbdhnffaaDoor
