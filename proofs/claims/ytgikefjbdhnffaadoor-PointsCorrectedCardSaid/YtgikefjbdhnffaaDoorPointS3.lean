/- Walks: the reference's corrected point and stretch; the generator of points. -/
import Derived.Test.YtgikefjbdhnffaaDoorPointS2
namespace Go.Proofs.YtgikefjbdhnffaaDoor
open Go.RowKit
set_option linter.unusedVariables false
set_option linter.unusedSimpArgs false
set_option maxRecDepth 100000 in
theorem aPoint_T {p : Nat} {L : List Int}  :
    SpecT Tryd.prog (TT p L) (fun b => b = p) 6 [sp p] 7 (fun y => ∃ q : PtS, ((-9223372036854775808 ≤ q.x ∧ q.x ≤ 100000000) ∧ (-100000000 ≤ q.y ∧ q.y ≤ 100000000)) ∧ y = avPt q) := by
  refine SpecT.of_VC Tryd.func6 rfl Tryd.ntmps6 (Nat.le_of_ble_eq_true rfl) (low := (fun b => b ≤ p)) (fun w A k h => h.ok) fun w A k hk hB => ?_
  have hnew : True := trivial
  refine VC.seq ?_
  refine VC.region ?_
  refine VO.op rfl (OpE.alloc rfl hB rfl Tryd.zeroValue27 rfl ?_)
  intro g2
  refine VO.nil ?_
  show VC _ _ _ _ _
  refine VC.seq ?_
  refine VC.region ?_
  refine VO.val rfl rfl (OpV.move (.inl rfl) rfl) ?_
  refine VO.op rfl (OpE.buildSlice (zc := #[.int .i64 0, .int .i64 0, .int .i64 0, .int .i64 0, .int .i64 0, .int .i64 0]) rfl hB rfl Tryd.underlying22 Tryd.sizeOf3 Tryd.zeroValue3 (by decide) (by decide) (by kernel_rfl) rfl rfl ?_)
  refine VO.op rfl (OpE.callT' (k) rfl rfl hB rfl Tryd.call37 rfl ((pick_T (-100000000) 100000000 (by rfl) (by decide) (by decide) (by repeat (first | exact AllI.nil | refine AllI.cons (by omega) ?_)))) (by omega) ?_)
  rintro _ ⟨r6, hr6, rfl⟩
  refine VO.val rfl rfl (OpV.move (.inl rfl) rfl) ?_
  refine VO.op rfl (OpE.buildSlice (zc := #[.int .i64 0, .int .i64 0, .int .i64 0, .int .i64 0, .int .i64 0]) rfl hB rfl Tryd.underlying22 Tryd.sizeOf3 Tryd.zeroValue3 (by decide) (by decide) (by kernel_rfl) rfl rfl ?_)
  refine VO.op rfl (OpE.callT' (k + 1) rfl rfl hB rfl Tryd.call37 rfl ((pick_T (-100000000) 100000000 (by rfl) (by decide) (by decide) (by repeat (first | exact AllI.nil | refine AllI.cons (by omega) ?_)))) (by omega) ?_)
  rintro _ ⟨r9, hr9, rfl⟩
  refine VO.val rfl rfl (OpV.build (pls := #[(0, 1), (1, 1)]) rfl Tryd.zeroValue27 Tryd.underlying27 (fun w => by kernel_rfl) rfl rfl) ?_
  refine VO.op rfl (OpE.alloc rfl hB rfl Tryd.zeroValue27 rfl ?_)
  intro g3
  refine VO.op rfl (OpE.store (i := 1) rfl hB rfl Tryd.sizeOf27 rfl rfl rfl rfl rfl rfl (Nat.le_of_ble_eq_true rfl) trivial ?_)
  refine VO.nil ?_
  show VC _ _ _ _ _
  refine VC.seq ?_
  refine VC.seq ?_
  refine VC.region ?_
  refine VO.val rfl rfl (OpV.move (.inl rfl) rfl) ?_
  refine VO.op rfl (OpE.callT' (k + 1 + 1) rfl rfl hB rfl Tryd.call38 rfl (flip_T (by decide)) (by omega) ?_)
  rintro _ ⟨r12, rfl⟩
  refine VO.nil ?_
  show VC _ _ _ _ _
  refine VC.cond rfl (fun aH1b => ?_) (fun aH1b => ?_)
  · have aH1 := aH1b
    try simp only [decide_eq_true_eq, decide_eq_false_iff_not, Bool.not_eq_true', Bool.not_eq_false', Int.not_lt, Int.not_le] at aH1
    refine VC.region ?_
    refine VO.val rfl rfl (OpV.move (.inl rfl) rfl) ?_
    refine VO.op rfl (OpE.buildSlice (zc := #[.int .i64 0, .int .i64 0]) rfl hB rfl Tryd.underlying22 Tryd.sizeOf3 Tryd.zeroValue3 (by decide) (by decide) (by kernel_rfl) rfl rfl ?_)
    refine VO.op rfl (OpE.callT' (k + 1 + 1 + 1) rfl rfl hB rfl Tryd.call37 rfl ((pick_T (-100000000) 100000000 (by rfl) (by decide) (by decide) (by repeat (first | exact AllI.nil | refine AllI.cons (by omega) ?_)))) (by omega) ?_)
    rintro _ ⟨r15, hr15, rfl⟩
    refine VO.val rfl rfl (OpV.move (.inl rfl) rfl) ?_
    refine VO.op rfl (OpE.buildSlice (zc := #[.int .i64 0, .int .i64 0, .int .i64 0]) rfl hB rfl Tryd.underlying22 Tryd.sizeOf3 Tryd.zeroValue3 (by decide) (by decide) (by kernel_rfl) rfl rfl ?_)
    refine VO.op rfl (OpE.callT' (k + 1 + 1 + 1 + 1) rfl rfl hB rfl Tryd.call37 rfl ((pick_T (-100000000) 100000000 (by rfl) (by decide) (by decide) (by repeat (first | exact AllI.nil | refine AllI.cons (by omega) ?_)))) (by omega) ?_)
    rintro _ ⟨r18, hr18, rfl⟩
    refine VO.val rfl rfl (OpV.build (pls := #[(0, 1), (1, 1)]) rfl Tryd.zeroValue27 Tryd.underlying27 (fun w => by kernel_rfl) rfl rfl) ?_
    refine VO.op rfl (OpE.store (i := 1) rfl hB rfl Tryd.sizeOf27 rfl rfl rfl rfl rfl rfl (Nat.le_of_ble_eq_true rfl) trivial ?_)
    refine VO.nil ?_
    show VC _ _ _ _ _
    refine VC.seq ?_
    refine VC.seq ?_
    refine VC.region ?_
    refine VO.val rfl rfl (OpV.move (.inl rfl) rfl) ?_
    refine VO.op rfl (OpE.callT' (k + 1 + 1 + 1 + 1 + 1) rfl rfl hB rfl Tryd.call38 rfl (flip_T (by decide)) (by omega) ?_)
    rintro _ ⟨r21, rfl⟩
    refine VO.nil ?_
    show VC _ _ _ _ _
    refine VC.cond rfl (fun aH2b => ?_) (fun aH2b => ?_)
    · have aH2 := aH2b
      try simp only [decide_eq_true_eq, decide_eq_false_iff_not, Bool.not_eq_true', Bool.not_eq_false', Int.not_lt, Int.not_le] at aH2
      refine VC.region ?_
      refine VO.val rfl rfl (OpV.move (.inl rfl) rfl) ?_
      refine VO.op rfl (OpE.buildSlice (zc := #[.int .i64 0, .int .i64 0, .int .i64 0]) rfl hB rfl Tryd.underlying22 Tryd.sizeOf3 Tryd.zeroValue3 (by decide) (by decide) (by kernel_rfl) rfl rfl ?_)
      refine VO.op rfl (OpE.callT' (k + 1 + 1 + 1 + 1 + 1 + 1) rfl rfl hB rfl Tryd.call37 rfl ((pick_T (-9223372036854775808) 100000000 (by rfl) (by decide) (by decide) (by repeat (first | exact AllI.nil | refine AllI.cons (by omega) ?_)))) (by omega) ?_)
      rintro _ ⟨r24, hr24, rfl⟩
      first
        | refine VO.val rfl rfl (OpV.fieldAddr_atO 0 rfl Tryd.underlying27 rfl rfl Tryd.sizeOf3 rfl rfl) ?_
        | refine VO.val rfl rfl (OpV.fieldAddrO 0 rfl Tryd.underlying27 rfl rfl Tryd.sizeOf3 rfl) ?_
      refine VO.op rfl (OpE.store (i := 1) rfl hB rfl Tryd.sizeOf3 rfl rfl rfl rfl rfl rfl (Nat.le_of_ble_eq_true rfl) trivial ?_)
      refine VO.nil ?_
      show VC _ _ _ _ _
      refine VC.seq ?_
      refine VC.region ?_
      refine VO.val rfl rfl (OpV.loadK_own (i := 1) rfl hB Tryd.isAgg27 Tryd.sizeOf27 rfl rfl rfl (fun h => h)) ?_
      refine VO.op rfl (OpE.store (i := 0) rfl hB rfl Tryd.sizeOf27 rfl rfl rfl rfl rfl rfl (Nat.le_of_ble_eq_true rfl) trivial ?_)
      refine VO.nil ?_
      show VC _ _ _ _ _
      refine VC.ret ?_
      exact Exists.intro _ (And.intro (RetV.one Tryd.results6 ((by first | exact ResV.cellK (i := 0) Tryd.isAgg27 Tryd.sizeOf27 rfl rfl rfl | exact ResV.cellK (i := 1) Tryd.isAgg27 Tryd.sizeOf27 rfl rfl rfl))) (And.intro (⟨⟨_, _⟩, ⟨by dsimp only; omega, by dsimp only; omega⟩, rfl⟩) ((show k + 1 + 1 + 1 + 1 + 1 + 1 + 1 ≤ k + 7 by omega))))
    · have aH2 := aH2b
      try simp only [decide_eq_true_eq, decide_eq_false_iff_not, Bool.not_eq_true', Bool.not_eq_false', Int.not_lt, Int.not_le] at aH2
      refine VC.skip ?_
      show VC _ _ _ _ _
      refine VC.seq ?_
      refine VC.region ?_
      refine VO.val rfl rfl (OpV.loadK_own (i := 1) rfl hB Tryd.isAgg27 Tryd.sizeOf27 rfl rfl rfl (fun h => h)) ?_
      refine VO.op rfl (OpE.store (i := 0) rfl hB rfl Tryd.sizeOf27 rfl rfl rfl rfl rfl rfl (Nat.le_of_ble_eq_true rfl) trivial ?_)
      refine VO.nil ?_
      show VC _ _ _ _ _
      refine VC.ret ?_
      exact Exists.intro _ (And.intro (RetV.one Tryd.results6 ((by first | exact ResV.cellK (i := 0) Tryd.isAgg27 Tryd.sizeOf27 rfl rfl rfl | exact ResV.cellK (i := 1) Tryd.isAgg27 Tryd.sizeOf27 rfl rfl rfl))) (And.intro (⟨⟨_, _⟩, ⟨by dsimp only; omega, by dsimp only; omega⟩, rfl⟩) ((show k + 1 + 1 + 1 + 1 + 1 + 1 ≤ k + 7 by omega))))
  · have aH1 := aH1b
    try simp only [decide_eq_true_eq, decide_eq_false_iff_not, Bool.not_eq_true', Bool.not_eq_false', Int.not_lt, Int.not_le] at aH1
    refine VC.skip ?_
    show VC _ _ _ _ _
    refine VC.seq ?_
    refine VC.seq ?_
    refine VC.region ?_
    refine VO.val rfl rfl (OpV.move (.inl rfl) rfl) ?_
    refine VO.op rfl (OpE.callT' (k + 1 + 1 + 1) rfl rfl hB rfl Tryd.call38 rfl (flip_T (by decide)) (by omega) ?_)
    rintro _ ⟨r21, rfl⟩
    refine VO.nil ?_
    show VC _ _ _ _ _
    refine VC.cond rfl (fun aH3b => ?_) (fun aH3b => ?_)
    · have aH3 := aH3b
      try simp only [decide_eq_true_eq, decide_eq_false_iff_not, Bool.not_eq_true', Bool.not_eq_false', Int.not_lt, Int.not_le] at aH3
      refine VC.region ?_
      refine VO.val rfl rfl (OpV.move (.inl rfl) rfl) ?_
      refine VO.op rfl (OpE.buildSlice (zc := #[.int .i64 0, .int .i64 0, .int .i64 0]) rfl hB rfl Tryd.underlying22 Tryd.sizeOf3 Tryd.zeroValue3 (by decide) (by decide) (by kernel_rfl) rfl rfl ?_)
      refine VO.op rfl (OpE.callT' (k + 1 + 1 + 1 + 1) rfl rfl hB rfl Tryd.call37 rfl ((pick_T (-9223372036854775808) 100000000 (by rfl) (by decide) (by decide) (by repeat (first | exact AllI.nil | refine AllI.cons (by omega) ?_)))) (by omega) ?_)
      rintro _ ⟨r24, hr24, rfl⟩
      first
        | refine VO.val rfl rfl (OpV.fieldAddr_atO 0 rfl Tryd.underlying27 rfl rfl Tryd.sizeOf3 rfl rfl) ?_
        | refine VO.val rfl rfl (OpV.fieldAddrO 0 rfl Tryd.underlying27 rfl rfl Tryd.sizeOf3 rfl) ?_
      refine VO.op rfl (OpE.store (i := 1) rfl hB rfl Tryd.sizeOf3 rfl rfl rfl rfl rfl rfl (Nat.le_of_ble_eq_true rfl) trivial ?_)
      refine VO.nil ?_
      show VC _ _ _ _ _
      refine VC.seq ?_
      refine VC.region ?_
      refine VO.val rfl rfl (OpV.loadK_own (i := 1) rfl hB Tryd.isAgg27 Tryd.sizeOf27 rfl rfl rfl (fun h => h)) ?_
      refine VO.op rfl (OpE.store (i := 0) rfl hB rfl Tryd.sizeOf27 rfl rfl rfl rfl rfl rfl (Nat.le_of_ble_eq_true rfl) trivial ?_)
      refine VO.nil ?_
      show VC _ _ _ _ _
      refine VC.ret ?_
      exact Exists.intro _ (And.intro (RetV.one Tryd.results6 ((by first | exact ResV.cellK (i := 0) Tryd.isAgg27 Tryd.sizeOf27 rfl rfl rfl | exact ResV.cellK (i := 1) Tryd.isAgg27 Tryd.sizeOf27 rfl rfl rfl))) (And.intro (⟨⟨_, _⟩, ⟨by dsimp only; omega, by dsimp only; omega⟩, rfl⟩) ((show k + 1 + 1 + 1 + 1 + 1 ≤ k + 7 by omega))))
    · have aH3 := aH3b
      try simp only [decide_eq_true_eq, decide_eq_false_iff_not, Bool.not_eq_true', Bool.not_eq_false', Int.not_lt, Int.not_le] at aH3
      refine VC.skip ?_
      show VC _ _ _ _ _
      refine VC.seq ?_
      refine VC.region ?_
      refine VO.val rfl rfl (OpV.loadK_own (i := 1) rfl hB Tryd.isAgg27 Tryd.sizeOf27 rfl rfl rfl (fun h => h)) ?_
      refine VO.op rfl (OpE.store (i := 0) rfl hB rfl Tryd.sizeOf27 rfl rfl rfl rfl rfl rfl (Nat.le_of_ble_eq_true rfl) trivial ?_)
      refine VO.nil ?_
      show VC _ _ _ _ _
      refine VC.ret ?_
      exact Exists.intro _ (And.intro (RetV.one Tryd.results6 ((by first | exact ResV.cellK (i := 0) Tryd.isAgg27 Tryd.sizeOf27 rfl rfl rfl | exact ResV.cellK (i := 1) Tryd.isAgg27 Tryd.sizeOf27 rfl rfl rfl))) (And.intro (⟨⟨_, _⟩, ⟨by dsimp only; omega, by dsimp only; omega⟩, rfl⟩) ((show k + 1 + 1 + 1 + 1 ≤ k + 7 by omega))))
def strF (a b c d : PtS) : Int × Int := if pointsE a b c d [] = 0 then (((sqP (cSub d c)).toNat / Nat.gcd (sqP (cSub d c)).toNat (sqP (cSub b a)).toNat : Nat), ((sqP (cSub b a)).toNat / Nat.gcd (sqP (cSub d c)).toNat (sqP (cSub b a)).toNat : Nat)) else (0, 0)
abbrev avFr (f : Int × Int) : AV := .agg [avI f.1, avI f.2]
/-- The zero point does not matter. -/
theorem pE_zero (a b c d : PtS) : pointsE a b c d [⟨0, 0⟩] = pointsE a b c d [] := by
  unfold pointsE
  have : ([a, b, c, d] ++ [(⟨0, 0⟩ : PtS)]).any farP = ([a, b, c, d] ++ []).any farP := by
    simp only [List.any_append, List.any_cons, List.any_nil]
    have : farP ⟨0, 0⟩ = false := by decide
    rw [this]; simp
  rw [this]
set_option maxRecDepth 100000 in
set_option maxHeartbeats 4000000 in
theorem panel_Stretch {a b c d : PtS}  :
    SpecN Tryd.prog 8 [avPt2 a b, avPt2 c d] (fun y => y = .tup [avFr (strF a b c d), avI (pointsE a b c d [])]) := by
  refine SpecN.of_VCN Tryd.func8 rfl Tryd.ntmps8 (Nat.le_of_ble_eq_true rfl) fun w A hB => ?_
  have hnew : True := trivial
  refine VC.seq ?_
  refine VC.region ?_
  refine VO.op rfl (OpE.box rfl hB rfl rfl rfl ?_)
  intro g2
  refine VO.op rfl (OpE.box rfl hB rfl rfl rfl ?_)
  intro g3
  refine VO.op rfl (OpE.alloc rfl hB rfl Tryd.zeroValue34 rfl ?_)
  intro g4
  refine VO.val rfl rfl (OpV.move (.inr rfl) rfl) ?_
  refine VO.nil ?_
  show VC _ _ _ _ _
  refine VC.seq ?_
  refine VC.seq ?_
  refine VC.region ?_
  refine VO.val rfl rfl (OpV.loadK_own (i := 0) rfl hB Tryd.isAgg29 Tryd.sizeOf29 rfl rfl rfl (fun h => h)) ?_
  refine VO.val rfl rfl (OpV.loadK_own (i := 1) rfl hB Tryd.isAgg29 Tryd.sizeOf29 rfl rfl rfl (fun h => h)) ?_
  refine VO.val rfl rfl (OpV.build (pls := #[(0, 1), (1, 1)]) rfl Tryd.zeroValue27 Tryd.underlying27 (fun w => by kernel_rfl) rfl rfl) ?_
  refine VO.op rfl (OpE.call rfl hB rfl Tryd.call39 rfl (SpecN.spec (panel_fiducialsFault (p := ⟨0, 0⟩))) ?_)
  rintro _ rfl
  rw [pE_zero]
  refine VO.val rfl rfl (OpV.move (.inr rfl) rfl) ?_
  refine VO.nil ?_
  show VC _ _ _ _ _
  refine VC.seq ?_
  refine VC.region ?_
  refine VO.val rfl rfl (OpV.move (.inl rfl) rfl) ?_
  refine VO.val rfl rfl (OpV.neq rfl rfl rfl) ?_
  refine VO.nil ?_
  show VC _ _ _ _ _
  refine VC.cond rfl (fun h0b => ?_) (fun h0b => ?_)
  · have h0 := h0b
    try simp only [decide_eq_true_eq, decide_eq_false_iff_not, Bool.not_eq_true', Bool.not_eq_false', Int.not_lt, Int.not_le] at h0
    refine VC.seq ?_
    refine VC.region ?_
    refine VO.val rfl rfl (OpV.build (pls := #[(0, 1), (1, 1)]) rfl Tryd.zeroValue34 Tryd.underlying34 (fun w => by kernel_rfl) rfl rfl) ?_
    refine VO.val rfl rfl (OpV.move (.inl rfl) rfl) ?_
    refine VO.op rfl (OpE.store (i := 2) rfl hB rfl Tryd.sizeOf34 rfl rfl rfl rfl rfl rfl (Nat.le_of_ble_eq_true rfl) trivial ?_)
    refine VO.val rfl rfl (OpV.move (.inr rfl) rfl) ?_
    refine VO.nil ?_
    show VC _ _ _ _ _
    refine VC.ret ?_
    exact Exists.intro _ (And.intro (RetN.two Tryd.results8 ((by first | exact ResN.cellF (i := 0) Tryd.isAgg34 Tryd.sizeOf34 rfl rfl rfl (flat_ofB rfl) | exact ResN.cellF (i := 1) Tryd.isAgg34 Tryd.sizeOf34 rfl rfl rfl (flat_ofB rfl) | exact ResN.cellF (i := 2) Tryd.isAgg34 Tryd.sizeOf34 rfl rfl rfl (flat_ofB rfl))) (ResN.v rfl)) (by first | (rw [strF, if_neg h0]; rfl) | (rw [strF, if_pos h00, hm, hn, h00]; rfl)))
  · have h0 := h0b
    try simp only [decide_eq_true_eq, decide_eq_false_iff_not, Bool.not_eq_true', Bool.not_eq_false', Int.not_lt, Int.not_le] at h0
    have h00 : pointsE a b c d [] = 0 := by omega
    have hf := pE_fid h00
    obtain ⟨n, hn⟩ : ∃ n : Nat, sqP (cSub b a) = n := ⟨_, (Int.toNat_of_nonneg (by have := hf.sq.1; omega)).symm⟩
    obtain ⟨m, hm⟩ : ∃ m : Nat, sqP (cSub d c) = m := ⟨_, (Int.toNat_of_nonneg hf.sq0.1).symm⟩
    have hs := hf.sq
    have hs0 := hf.sq0
    rw [hn] at hs
    rw [hm] at hs0
    refine VC.skip ?_
    show VC _ _ _ _ _
    refine VC.seq ?_
    refine VC.draw (fun j b => j = 13 ∧ b = g4) hB (by kernel_rfl) ?_
    refine VA.take (i := 0) rfl (by kernel_rfl) (by kernel_rfl) (by kernel_rfl) rfl rfl (OpV.indexAddr_arr rfl Tryd.underlying29 Tryd.sizeOf27 rfl rfl (by omega) (by omega)) ?_
    refine VA.take (i := 1) rfl (by kernel_rfl) (by kernel_rfl) (by kernel_rfl) rfl rfl (OpV.loadK_own (i := 1) rfl hB Tryd.isAgg27 Tryd.sizeOf27 rfl rfl rfl (by first | exact Wi.not1 (by kernel_rfl) | exact Wi.not2 (by kernel_rfl) (by kernel_rfl) | exact Wi.notX (by kernel_rfl))) ?_
    refine VA.take (i := 2) rfl (by kernel_rfl) (by kernel_rfl) (by kernel_rfl) rfl rfl (OpV.indexAddr_arr rfl Tryd.underlying29 Tryd.sizeOf27 rfl rfl (by omega) (by omega)) ?_
    refine VA.take (i := 3) rfl (by kernel_rfl) (by kernel_rfl) (by kernel_rfl) rfl rfl (OpV.loadK_own (i := 1) rfl hB Tryd.isAgg27 Tryd.sizeOf27 rfl rfl rfl (by first | exact Wi.not1 (by kernel_rfl) | exact Wi.not2 (by kernel_rfl) (by kernel_rfl) | exact Wi.notX (by kernel_rfl))) ?_
    refine VA.take (i := 6) rfl (by kernel_rfl) (by kernel_rfl) (by kernel_rfl) rfl rfl (OpV.indexAddr_arr rfl Tryd.underlying29 Tryd.sizeOf27 rfl rfl (by omega) (by omega)) ?_
    refine VA.take (i := 7) rfl (by kernel_rfl) (by kernel_rfl) (by kernel_rfl) rfl rfl (OpV.loadK_own (i := 0) rfl hB Tryd.isAgg27 Tryd.sizeOf27 rfl rfl rfl (by first | exact Wi.not1 (by kernel_rfl) | exact Wi.not2 (by kernel_rfl) (by kernel_rfl) | exact Wi.notX (by kernel_rfl))) ?_
    refine VA.take (i := 8) rfl (by kernel_rfl) (by kernel_rfl) (by kernel_rfl) rfl rfl (OpV.indexAddr_arr rfl Tryd.underlying29 Tryd.sizeOf27 rfl rfl (by omega) (by omega)) ?_
    refine VA.take (i := 9) rfl (by kernel_rfl) (by kernel_rfl) (by kernel_rfl) rfl rfl (OpV.loadK_own (i := 0) rfl hB Tryd.isAgg27 Tryd.sizeOf27 rfl rfl rfl (by first | exact Wi.not1 (by kernel_rfl) | exact Wi.not2 (by kernel_rfl) (by kernel_rfl) | exact Wi.notX (by kernel_rfl))) ?_
    refine VA.all (rs := [4]) (by kernel_rfl) (by decide) ?_
    refine ⟨⟨_, rfl, .inl rfl, ?_⟩, trivial⟩
    refine OpE.call rfl hB rfl Tryd.call40 rfl (SpecN.spec (panel_less (p := d) (q := c) (by have := hf.mx; unfold cSub at this; simp only at this; omega) (by have := hf.my; unfold cSub at this; simp only at this; omega))) ?_
    rintro _ rfl
    refine VA.all (rs := [5]) (by kernel_rfl) (by decide) ?_
    refine ⟨⟨_, rfl, .inl rfl, ?_⟩, trivial⟩
    refine OpE.call rfl hB rfl Tryd.call42 rfl (SpecN.spec (vec_square (v := cSub d c) (by have := mulB hf.mx hf.mx; omega) (by have := mulB hf.my hf.my; omega))) ?_
    rintro _ rfl
    rw [hm]
    refine VA.all (rs := [10]) (by kernel_rfl) (by decide) ?_
    refine ⟨⟨_, rfl, .inl rfl, ?_⟩, trivial⟩
    refine OpE.call rfl hB rfl Tryd.call40 rfl (SpecN.spec (panel_less (p := b) (q := a) (by have := hf.nx; unfold cSub at this; simp only at this; omega) (by have := hf.ny; unfold cSub at this; simp only at this; omega))) ?_
    rintro _ rfl
    refine VA.all (rs := [11]) (by kernel_rfl) (by decide) ?_
    refine ⟨⟨_, rfl, .inl rfl, ?_⟩, trivial⟩
    refine OpE.call rfl hB rfl Tryd.call42 rfl (SpecN.spec (vec_square (v := cSub b a) (by have := mulB hf.nx hf.nx; omega) (by have := mulB hf.ny hf.ny; omega))) ?_
    rintro _ rfl
    rw [hn]
    refine VA.all (rs := [12]) (by kernel_rfl) (by decide) ?_
    refine ⟨⟨_, rfl, .inl rfl, ?_⟩, trivial⟩
    refine OpE.call rfl hB rfl Tryd.call44 rfl (SpecN.spec (kit_Lowest (a := m) (b := n) (by omega) (by omega) (by omega))) ?_
    rintro _ rfl
    refine VA.all (rs := [13]) (by kernel_rfl) (by decide) ?_
    refine ⟨⟨_, rfl, .inl rfl, ?_⟩, trivial⟩
    refine OpE.store (i := 2) rfl hB rfl Tryd.sizeOf34 rfl rfl rfl rfl rfl rfl (Nat.le_of_ble_eq_true rfl) (by first | exact ⟨rfl, rfl⟩ | exact .inl ⟨rfl, rfl⟩ | exact .inr ⟨rfl, rfl⟩ | exact ⟨rfl, trivial⟩ | exact .inl ⟨rfl, trivial⟩ | exact .inr ⟨rfl, trivial⟩) ?_
    refine VA.take (i := 14) rfl (by kernel_rfl) (by kernel_rfl) (by kernel_rfl) rfl rfl (OpV.move (.inr rfl) rfl) ?_
    refine VA.done (by kernel_rfl) ?_
    show VC _ _ _ _ _
    refine VC.ret ?_
    exact Exists.intro _ (And.intro (RetN.two Tryd.results8 ((by first | exact ResN.cellF (i := 0) Tryd.isAgg34 Tryd.sizeOf34 rfl rfl rfl (flat_ofB rfl) | exact ResN.cellF (i := 1) Tryd.isAgg34 Tryd.sizeOf34 rfl rfl rfl (flat_ofB rfl) | exact ResN.cellF (i := 2) Tryd.isAgg34 Tryd.sizeOf34 rfl rfl rfl (flat_ofB rfl))) (ResN.v rfl)) (by first | (rw [strF, if_neg h0]; rfl) | (rw [strF, if_pos h00, hm, hn, h00]; rfl)))
set_option maxRecDepth 100000 in
theorem rf_StretchOf1 {a b : PtS} (hx : -1000000 ≤ (cSub b a).x ∧ (cSub b a).x ≤ 1000000) (hy : -1000000 ≤ (cSub b a).y ∧ (cSub b a).y ≤ 1000000) :
    SpecN Tryd.prog 48 [avPt2 a b] (fun y => y = avI (sqP (cSub b a))) := by
  refine SpecN.of_VCN Tryd.func48 rfl Tryd.ntmps48 (Nat.le_of_ble_eq_true rfl) fun w A hB => ?_
  have hnew : True := trivial
  refine VC.seq ?_
  refine VC.region ?_
  refine VO.op rfl (OpE.box rfl hB rfl rfl rfl ?_)
  intro g1
  refine VO.val rfl rfl (OpV.move (.inr rfl) rfl) ?_
  refine VO.nil ?_
  show VC _ _ _ _ _
  refine VC.seq ?_
  refine VC.draw (fun _ => NoB) hB (by kernel_rfl) ?_
  refine VA.take (i := 0) rfl (by kernel_rfl) (by kernel_rfl) (by kernel_rfl) rfl rfl (OpV.indexAddr_arr rfl Tryd.underlying29 Tryd.sizeOf27 rfl rfl (by omega) (by omega)) ?_
  first
    | refine VA.take (i := 1) rfl (by kernel_rfl) (by kernel_rfl) (by kernel_rfl) rfl rfl (OpV.fieldAddr_atO 0 rfl Tryd.underlying27 rfl rfl Tryd.sizeOf3 rfl rfl) ?_
    | refine VA.take (i := 1) rfl (by kernel_rfl) (by kernel_rfl) (by kernel_rfl) rfl rfl (OpV.fieldAddrO 0 rfl Tryd.underlying27 rfl rfl Tryd.sizeOf3 rfl) ?_
  refine VA.take (i := 2) rfl (by kernel_rfl) (by kernel_rfl) (by kernel_rfl) rfl rfl (OpV.load_own (i := 0) rfl hB Tryd.isAgg3 rfl rfl rfl Wi.not0) ?_
  refine VA.take (i := 3) rfl (by kernel_rfl) (by kernel_rfl) (by kernel_rfl) rfl rfl (OpV.indexAddr_arr rfl Tryd.underlying29 Tryd.sizeOf27 rfl rfl (by omega) (by omega)) ?_
  first
    | refine VA.take (i := 4) rfl (by kernel_rfl) (by kernel_rfl) (by kernel_rfl) rfl rfl (OpV.fieldAddr_atO 0 rfl Tryd.underlying27 rfl rfl Tryd.sizeOf3 rfl rfl) ?_
    | refine VA.take (i := 4) rfl (by kernel_rfl) (by kernel_rfl) (by kernel_rfl) rfl rfl (OpV.fieldAddrO 0 rfl Tryd.underlying27 rfl rfl Tryd.sizeOf3 rfl) ?_
  refine VA.take (i := 5) rfl (by kernel_rfl) (by kernel_rfl) (by kernel_rfl) rfl rfl (OpV.load_own (i := 0) rfl hB Tryd.isAgg3 rfl rfl rfl Wi.not0) ?_
  refine VA.take (i := 6) rfl (by kernel_rfl) (by kernel_rfl) (by kernel_rfl) rfl rfl (OpV.sub rfl rfl rfl (by have h1 := hx; have h2 := hy; simp only [cSub] at h1 h2; have h3 := mulB hx hx; have h4 := mulB hy hy; simp only [cSub] at h3 h4; unfold fits; omega)) ?_
  refine VA.take (i := 7) rfl (by kernel_rfl) (by kernel_rfl) (by kernel_rfl) rfl rfl (OpV.indexAddr_arr rfl Tryd.underlying29 Tryd.sizeOf27 rfl rfl (by omega) (by omega)) ?_
  first
    | refine VA.take (i := 8) rfl (by kernel_rfl) (by kernel_rfl) (by kernel_rfl) rfl rfl (OpV.fieldAddr_atO 1 rfl Tryd.underlying27 rfl rfl Tryd.sizeOf3 rfl rfl) ?_
    | refine VA.take (i := 8) rfl (by kernel_rfl) (by kernel_rfl) (by kernel_rfl) rfl rfl (OpV.fieldAddrO 1 rfl Tryd.underlying27 rfl rfl Tryd.sizeOf3 rfl) ?_
  refine VA.take (i := 9) rfl (by kernel_rfl) (by kernel_rfl) (by kernel_rfl) rfl rfl (OpV.load_own (i := 0) rfl hB Tryd.isAgg3 rfl rfl rfl Wi.not0) ?_
  refine VA.take (i := 10) rfl (by kernel_rfl) (by kernel_rfl) (by kernel_rfl) rfl rfl (OpV.indexAddr_arr rfl Tryd.underlying29 Tryd.sizeOf27 rfl rfl (by omega) (by omega)) ?_
  first
    | refine VA.take (i := 11) rfl (by kernel_rfl) (by kernel_rfl) (by kernel_rfl) rfl rfl (OpV.fieldAddr_atO 1 rfl Tryd.underlying27 rfl rfl Tryd.sizeOf3 rfl rfl) ?_
    | refine VA.take (i := 11) rfl (by kernel_rfl) (by kernel_rfl) (by kernel_rfl) rfl rfl (OpV.fieldAddrO 1 rfl Tryd.underlying27 rfl rfl Tryd.sizeOf3 rfl) ?_
  refine VA.take (i := 12) rfl (by kernel_rfl) (by kernel_rfl) (by kernel_rfl) rfl rfl (OpV.load_own (i := 0) rfl hB Tryd.isAgg3 rfl rfl rfl Wi.not0) ?_
  refine VA.take (i := 13) rfl (by kernel_rfl) (by kernel_rfl) (by kernel_rfl) rfl rfl (OpV.sub rfl rfl rfl (by have h1 := hx; have h2 := hy; simp only [cSub] at h1 h2; have h3 := mulB hx hx; have h4 := mulB hy hy; simp only [cSub] at h3 h4; unfold fits; omega)) ?_
  refine VA.take (i := 14) rfl (by kernel_rfl) (by kernel_rfl) (by kernel_rfl) rfl rfl (OpV.move (.inr rfl) rfl) ?_
  refine VA.take (i := 15) rfl (by kernel_rfl) (by kernel_rfl) (by kernel_rfl) rfl rfl (OpV.move (.inr rfl) rfl) ?_
  refine VA.done (by kernel_rfl) ?_
  show VC _ _ _ _ _
  refine VC.seq ?_
  refine VC.region ?_
  refine VO.val rfl rfl (OpV.move (.inl rfl) rfl) ?_
  refine VO.val rfl rfl (OpV.move (.inl rfl) rfl) ?_
  refine VO.val rfl rfl (OpV.mul rfl rfl rfl (by have h1 := hx; have h2 := hy; simp only [cSub] at h1 h2; have h3 := mulB hx hx; have h4 := mulB hy hy; simp only [cSub] at h3 h4; unfold fits; omega)) ?_
  refine VO.val rfl rfl (OpV.move (.inl rfl) rfl) ?_
  refine VO.val rfl rfl (OpV.move (.inl rfl) rfl) ?_
  refine VO.val rfl rfl (OpV.mul rfl rfl rfl (by have h1 := hx; have h2 := hy; simp only [cSub] at h1 h2; have h3 := mulB hx hx; have h4 := mulB hy hy; simp only [cSub] at h3 h4; unfold fits; omega)) ?_
  refine VO.val rfl rfl (OpV.add rfl rfl rfl (by have h1 := hx; have h2 := hy; simp only [cSub] at h1 h2; have h3 := mulB hx hx; have h4 := mulB hy hy; simp only [cSub] at h3 h4; unfold fits; omega)) ?_
  refine VO.val rfl rfl (OpV.move (.inr rfl) rfl) ?_
  refine VO.nil ?_
  show VC _ _ _ _ _
  refine VC.ret ?_
  exact Exists.intro _ (And.intro (RetN.one Tryd.results48 (ResN.v rfl)) (rfl))
set_option maxRecDepth 100000 in
theorem rf_StretchOf {a b c d : PtS} (h00 : pointsE a b c d [] = 0) :
    SpecN Tryd.prog 11 [avPt2 a b, avPt2 c d] (fun y => y = avFr (strF a b c d)) := by
  refine SpecN.of_VCN Tryd.func11 rfl Tryd.ntmps11 (Nat.le_of_ble_eq_true rfl) fun w A hB => ?_
  have hnew : True := trivial
  refine VC.seq ?_
  refine VC.region ?_
  refine VO.op rfl (OpE.box rfl hB rfl rfl rfl ?_)
  intro g2
  refine VO.op rfl (OpE.box rfl hB rfl rfl rfl ?_)
  intro g3
  refine VO.op rfl (OpE.alloc rfl hB rfl Tryd.zeroValue34 rfl ?_)
  intro g4
  refine VO.nil ?_
  show VC _ _ _ _ _
  refine VC.seq ?_
  have hf := pE_fid h00
  obtain ⟨n, hn⟩ : ∃ n : Nat, sqP (cSub b a) = n := ⟨_, (Int.toNat_of_nonneg (by have := hf.sq.1; omega)).symm⟩
  obtain ⟨m, hm⟩ : ∃ m : Nat, sqP (cSub d c) = m := ⟨_, (Int.toNat_of_nonneg hf.sq0.1).symm⟩
  have hs := hf.sq
  have hs0 := hf.sq0
  rw [hn] at hs
  rw [hm] at hs0
  refine VC.region ?_
  refine VO.val rfl rfl (OpV.move (.inr rfl) rfl) ?_
  refine VO.le _ (Le.recast (t := 5) (y := .fn 48 []) rfl (fun w Z u h => h.fn0)) ?_
  refine VO.nil ?_
  show VC _ _ _ _ _
  refine VC.seq ?_
  refine VC.draw (fun j b => j = 7 ∧ b = g4) hB (by kernel_rfl) ?_
  refine VA.take (i := 0) rfl (by kernel_rfl) (by kernel_rfl) (by kernel_rfl) rfl rfl (OpV.move (.inl rfl) rfl) ?_
  refine VA.take (i := 1) rfl (by kernel_rfl) (by kernel_rfl) (by kernel_rfl) rfl rfl (OpV.loadK_own (i := 1) rfl hB Tryd.isAgg29 Tryd.sizeOf29 rfl rfl rfl (by first | exact Wi.not1 (by kernel_rfl) | exact Wi.not2 (by kernel_rfl) (by kernel_rfl) | exact Wi.notX (by kernel_rfl))) ?_
  refine VA.take (i := 3) rfl (by kernel_rfl) (by kernel_rfl) (by kernel_rfl) rfl rfl (OpV.move (.inl rfl) rfl) ?_
  refine VA.take (i := 4) rfl (by kernel_rfl) (by kernel_rfl) (by kernel_rfl) rfl rfl (OpV.loadK_own (i := 0) rfl hB Tryd.isAgg29 Tryd.sizeOf29 rfl rfl rfl (by first | exact Wi.not1 (by kernel_rfl) | exact Wi.not2 (by kernel_rfl) (by kernel_rfl) | exact Wi.notX (by kernel_rfl))) ?_
  refine VA.all (rs := [2]) (by kernel_rfl) (by decide) ?_
  refine ⟨⟨_, rfl, .inl rfl, ?_⟩, trivial⟩
  refine OpE.callF rfl hB rfl Tryd.call48 rfl rfl (SpecN.spec (rf_StretchOf1 (a := c) (b := d) hf.mx hf.my)) ?_
  rintro _ rfl
  rw [hm]
  refine VA.all (rs := [5]) (by kernel_rfl) (by decide) ?_
  refine ⟨⟨_, rfl, .inl rfl, ?_⟩, trivial⟩
  refine OpE.callF rfl hB rfl Tryd.call48 rfl rfl (SpecN.spec (rf_StretchOf1 (a := a) (b := b) hf.nx hf.ny)) ?_
  rintro _ rfl
  rw [hn]
  refine VA.all (rs := [6]) (by kernel_rfl) (by decide) ?_
  refine ⟨⟨_, rfl, .inl rfl, ?_⟩, trivial⟩
  refine OpE.call rfl hB rfl Tryd.call49 rfl (SpecN.spec (rf_Lowest (a := m) (b := n) (by omega) (by omega) (by omega))) ?_
  rintro _ rfl
  refine VA.all (rs := [7]) (by kernel_rfl) (by decide) ?_
  refine ⟨⟨_, rfl, .inl rfl, ?_⟩, trivial⟩
  refine OpE.store (i := 2) rfl hB rfl Tryd.sizeOf34 rfl rfl rfl rfl rfl rfl (Nat.le_of_ble_eq_true rfl) (by first | exact ⟨rfl, rfl⟩ | exact .inl ⟨rfl, rfl⟩ | exact .inr ⟨rfl, rfl⟩ | exact ⟨rfl, trivial⟩ | exact .inl ⟨rfl, trivial⟩ | exact .inr ⟨rfl, trivial⟩) ?_
  refine VA.done (by kernel_rfl) ?_
  show VC _ _ _ _ _
  refine VC.ret ?_
  exact Exists.intro _ (And.intro (RetN.one Tryd.results11 ((by first | exact ResN.cellF (i := 0) Tryd.isAgg34 Tryd.sizeOf34 rfl rfl rfl (flat_ofB rfl) | exact ResN.cellF (i := 1) Tryd.isAgg34 Tryd.sizeOf34 rfl rfl rfl (flat_ofB rfl) | exact ResN.cellF (i := 2) Tryd.isAgg34 Tryd.sizeOf34 rfl rfl rfl (flat_ofB rfl)))) (by (rw [strF, if_pos h00, hm, hn]; rfl)))
theorem near_eq {n c : Int} (hc : 0 < c) : (2 * n + c) / (2 * c) = roundI n c := (round_eq hc).symm
set_option maxRecDepth 100000 in
theorem rf_CorrectedBy1 {n c : Int} (hn : -4000000000000000000 ≤ n ∧ n ≤ 4000000000000000000) (hc : 0 < c ∧ c ≤ 2000000000000) :
    SpecN Tryd.prog 46 [avI n, .at_ 1 (fun _ => avI c)] (fun y => y = avI (roundI n c)) := by
  refine SpecN.of_VCN Tryd.func46 rfl Tryd.ntmps46 (Nat.le_of_ble_eq_true rfl) fun w A hB => ?_
  have hnew : True := trivial
  refine VC.seq ?_
  refine VC.region ?_
  refine VO.val rfl rfl (OpV.move (.inr rfl) rfl) ?_
  refine VO.nil ?_
  show VC _ _ _ _ _
  refine VC.seq ?_
  refine VC.region ?_
  refine VO.val rfl rfl (OpV.move (.inl rfl) rfl) ?_
  refine VO.val rfl rfl (OpV.mul rfl rfl rfl (by unfold fits; omega)) ?_
  refine VO.val rfl rfl (OpV.load_at rfl hB OutW.no Tryd.isAgg3 rfl rfl) ?_
  refine VO.val rfl rfl (OpV.add rfl rfl rfl (by unfold fits; omega)) ?_
  refine VO.val rfl rfl (OpV.load_at rfl hB OutW.no Tryd.isAgg3 rfl rfl) ?_
  refine VO.val rfl rfl (OpV.mul rfl rfl rfl (by unfold fits; omega)) ?_
  refine VO.op rfl (OpE.call rfl hB rfl Tryd.call47 rfl (SpecN.spec (rf_floor (by omega) (by omega))) ?_)
  rintro _ rfl
  refine VO.val rfl rfl (OpV.move (.inr rfl) rfl) ?_
  refine VO.nil ?_
  show VC _ _ _ _ _
  refine VC.ret ?_
  exact Exists.intro _ (And.intro (RetN.one Tryd.results46 (ResN.v rfl)) (by rw [near_eq hc.1]))
theorem Rep.at1 {w : World} {Z : Nat → Prop} {x : AV} {F : Nat → AV} (h0 : F 0 = x) {u : Value} (h : Rep w Z (.at_ 1 F) u) : Rep w Z (.at_ 1 fun _ => x) u := by
  cases h with
  | at_ m f b off c e u hZ hb hc hr =>
    refine .at_ 1 _ b off c e u hZ hb hc fun j hj => ?_
    have h1 : j = 0 := by omega
    subst h1
    rw [← h0]; exact hr 0 hj
/-- What the reference reckons. -/
structure RefOk (a b c d p : PtS) : Prop where
  mm : (-1000000000000 ≤ (cSub d c).x * (cSub b a).x ∧ (cSub d c).x * (cSub b a).x ≤ 1000000000000) ∧ (-1000000000000 ≤ (cSub d c).y * (cSub b a).y ∧ (cSub d c).y * (cSub b a).y ≤ 1000000000000) ∧ (-1000000000000 ≤ (cSub d c).y * (cSub b a).x ∧ (cSub d c).y * (cSub b a).x ≤ 1000000000000) ∧ (-1000000000000 ≤ (cSub d c).x * (cSub b a).y ∧ (cSub d c).x * (cSub b a).y ≤ 1000000000000)
def reP (n m : PtS) : Int := m.x * n.x + m.y * n.y
def imP (n m : PtS) : Int := m.y * n.x - m.x * n.y
theorem refOk {a b c d p : PtS} (hf : FidOk a b c d) : RefOk a b c d p := ⟨⟨mulB hf.mx hf.nx, mulB hf.my hf.ny, mulB hf.my hf.nx, mulB hf.mx hf.ny⟩⟩
theorem reim_bd {a b c d p : PtS} (hf : FidOk a b c d) : (-2000000000000 ≤ reP (cSub b a) (cSub d c) ∧ reP (cSub b a) (cSub d c) ≤ 2000000000000) ∧ (-2000000000000 ≤ imP (cSub b a) (cSub d c) ∧ imP (cSub b a) (cSub d c) ≤ 2000000000000) := by
  have h := (refOk (p := p) hf).mm
  unfold reP imP
  omega
theorem xy_bd {x y e i : Int} (hx : -1000000 ≤ x ∧ x ≤ 1000000) (hy : -1000000 ≤ y ∧ y ≤ 1000000) (he : -2000000000000 ≤ e ∧ e ≤ 2000000000000) (hi : -2000000000000 ≤ i ∧ i ≤ 2000000000000) :
    (-2000000000000000000 ≤ x * e ∧ x * e ≤ 2000000000000000000) ∧ (-2000000000000000000 ≤ y * i ∧ y * i ≤ 2000000000000000000) ∧ (-2000000000000000000 ≤ x * i ∧ x * i ≤ 2000000000000000000) ∧ (-2000000000000000000 ≤ y * e ∧ y * e ≤ 2000000000000000000) := by
  have h1 := mulB hx he; have h2 := mulB hy hi; have h3 := mulB hx hi; have h4 := mulB hy he
  omega
theorem corr_ref {a b c d p : PtS} : corrP a b c d p = ⟨c.x + roundI ((cSub p a).x * reP (cSub b a) (cSub d c) - (cSub p a).y * imP (cSub b a) (cSub d c)) (sqP (cSub b a)), c.y + roundI ((cSub p a).x * imP (cSub b a) (cSub d c) + (cSub p a).y * reP (cSub b a) (cSub d c)) (sqP (cSub b a))⟩ := by
  unfold corrP
  simp only [corr_x, corr_y, reP, imP]
theorem corrR_ref {a b c d p : PtS} (h : pointsE a b c d [p] = 0) : corrR a b c d p = ⟨c.x + roundI ((cSub p a).x * reP (cSub b a) (cSub d c) - (cSub p a).y * imP (cSub b a) (cSub d c)) (sqP (cSub b a)), c.y + roundI ((cSub p a).x * imP (cSub b a) (cSub d c) + (cSub p a).y * reP (cSub b a) (cSub d c)) (sqP (cSub b a))⟩ := by
  rw [corrR, if_pos h, corr_ref]
set_option maxRecDepth 100000 in
set_option maxHeartbeats 4000000 in
theorem rf_CorrectedBy {a b c d p : PtS} (h00 : pointsE a b c d [p] = 0) :
    SpecN Tryd.prog 10 [avPt2 a b, avPt2 c d, avPt p] (fun y => y = avPt (corrR a b c d p)) := by
  refine SpecN.of_VCN Tryd.func10 rfl Tryd.ntmps10 (Nat.le_of_ble_eq_true rfl) fun w A hB => ?_
  have hnew : True := trivial
  refine VC.seq ?_
  refine VC.region ?_
  refine VO.op rfl (OpE.box rfl hB rfl rfl rfl ?_)
  intro g3
  refine VO.op rfl (OpE.box rfl hB rfl rfl rfl ?_)
  intro g4
  refine VO.op rfl (OpE.box rfl hB rfl rfl rfl ?_)
  intro g5
  refine VO.op rfl (OpE.alloc rfl hB rfl Tryd.zeroValue27 rfl ?_)
  intro g6
  refine VO.nil ?_
  show VC _ _ _ _ _
  refine VC.seq ?_
  have hf := pE_fid h00
  have hp := pE_pt h00
  obtain ⟨n, hn⟩ : ∃ n : PtS, n = cSub b a := ⟨_, rfl⟩
  obtain ⟨m, hm⟩ : ∃ m : PtS, m = cSub d c := ⟨_, rfl⟩
  obtain ⟨z, hz⟩ : ∃ z : PtS, z = cSub p a := ⟨_, rfl⟩
  have hr := refOk (p := p) hf
  have hi := reim_bd (p := p) hf
  have hsq := hf.sq
  have nx := hf.nx
  have ny := hf.ny
  have mx := hf.mx
  have my := hf.my
  have cx := hf.cx
  have cy := hf.cy
  rw [← hn, ← hm] at hi
  have hrm := hr.mm
  rw [← hn, ← hm] at hrm
  rw [← hz] at hp
  rw [← hn] at hsq nx ny
  rw [← hm] at mx my
  have hxy := xy_bd hp.1 hp.2 hi.1 hi.2
  have n1 : b.x - a.x = n.x := by rw [hn]; rfl
  have n2 : b.y - a.y = n.y := by rw [hn]; rfl
  have m1 : d.x - c.x = m.x := by rw [hm]; rfl
  have m2 : d.y - c.y = m.y := by rw [hm]; rfl
  have z1 : p.x - a.x = z.x := by rw [hz]; rfl
  have z2 : p.y - a.y = z.y := by rw [hz]; rfl
  have s1 := mulB nx nx
  have s2 := mulB ny ny
  refine VC.draw (fun _ => NoB) hB (by kernel_rfl) ?_
  refine VA.take (i := 0) rfl (by kernel_rfl) (by kernel_rfl) (by kernel_rfl) rfl rfl (OpV.indexAddr_arr rfl Tryd.underlying29 Tryd.sizeOf27 rfl rfl (by omega) (by omega)) ?_
  first
    | refine VA.take (i := 1) rfl (by kernel_rfl) (by kernel_rfl) (by kernel_rfl) rfl rfl (OpV.fieldAddr_atO 0 rfl Tryd.underlying27 rfl rfl Tryd.sizeOf3 rfl rfl) ?_
    | refine VA.take (i := 1) rfl (by kernel_rfl) (by kernel_rfl) (by kernel_rfl) rfl rfl (OpV.fieldAddrO 0 rfl Tryd.underlying27 rfl rfl Tryd.sizeOf3 rfl) ?_
  refine VA.take (i := 2) rfl (by kernel_rfl) (by kernel_rfl) (by kernel_rfl) rfl rfl (OpV.load_own (i := 0) rfl hB Tryd.isAgg3 rfl rfl rfl Wi.not0) ?_
  refine VA.take (i := 3) rfl (by kernel_rfl) (by kernel_rfl) (by kernel_rfl) rfl rfl (OpV.indexAddr_arr rfl Tryd.underlying29 Tryd.sizeOf27 rfl rfl (by omega) (by omega)) ?_
  first
    | refine VA.take (i := 4) rfl (by kernel_rfl) (by kernel_rfl) (by kernel_rfl) rfl rfl (OpV.fieldAddr_atO 0 rfl Tryd.underlying27 rfl rfl Tryd.sizeOf3 rfl rfl) ?_
    | refine VA.take (i := 4) rfl (by kernel_rfl) (by kernel_rfl) (by kernel_rfl) rfl rfl (OpV.fieldAddrO 0 rfl Tryd.underlying27 rfl rfl Tryd.sizeOf3 rfl) ?_
  refine VA.take (i := 5) rfl (by kernel_rfl) (by kernel_rfl) (by kernel_rfl) rfl rfl (OpV.load_own (i := 0) rfl hB Tryd.isAgg3 rfl rfl rfl Wi.not0) ?_
  refine VA.take (i := 6) rfl (by kernel_rfl) (by kernel_rfl) (by kernel_rfl) rfl rfl (OpV.sub rfl rfl rfl (by unfold fits; omega)) ?_
  rw [n1]
  refine VA.take (i := 7) rfl (by kernel_rfl) (by kernel_rfl) (by kernel_rfl) rfl rfl (OpV.indexAddr_arr rfl Tryd.underlying29 Tryd.sizeOf27 rfl rfl (by omega) (by omega)) ?_
  first
    | refine VA.take (i := 8) rfl (by kernel_rfl) (by kernel_rfl) (by kernel_rfl) rfl rfl (OpV.fieldAddr_atO 1 rfl Tryd.underlying27 rfl rfl Tryd.sizeOf3 rfl rfl) ?_
    | refine VA.take (i := 8) rfl (by kernel_rfl) (by kernel_rfl) (by kernel_rfl) rfl rfl (OpV.fieldAddrO 1 rfl Tryd.underlying27 rfl rfl Tryd.sizeOf3 rfl) ?_
  refine VA.take (i := 9) rfl (by kernel_rfl) (by kernel_rfl) (by kernel_rfl) rfl rfl (OpV.load_own (i := 0) rfl hB Tryd.isAgg3 rfl rfl rfl Wi.not0) ?_
  refine VA.take (i := 10) rfl (by kernel_rfl) (by kernel_rfl) (by kernel_rfl) rfl rfl (OpV.indexAddr_arr rfl Tryd.underlying29 Tryd.sizeOf27 rfl rfl (by omega) (by omega)) ?_
  first
    | refine VA.take (i := 11) rfl (by kernel_rfl) (by kernel_rfl) (by kernel_rfl) rfl rfl (OpV.fieldAddr_atO 1 rfl Tryd.underlying27 rfl rfl Tryd.sizeOf3 rfl rfl) ?_
    | refine VA.take (i := 11) rfl (by kernel_rfl) (by kernel_rfl) (by kernel_rfl) rfl rfl (OpV.fieldAddrO 1 rfl Tryd.underlying27 rfl rfl Tryd.sizeOf3 rfl) ?_
  refine VA.take (i := 12) rfl (by kernel_rfl) (by kernel_rfl) (by kernel_rfl) rfl rfl (OpV.load_own (i := 0) rfl hB Tryd.isAgg3 rfl rfl rfl Wi.not0) ?_
  refine VA.take (i := 13) rfl (by kernel_rfl) (by kernel_rfl) (by kernel_rfl) rfl rfl (OpV.sub rfl rfl rfl (by unfold fits; omega)) ?_
  rw [n2]
  refine VA.take (i := 14) rfl (by kernel_rfl) (by kernel_rfl) (by kernel_rfl) rfl rfl (OpV.move (.inr rfl) rfl) ?_
  refine VA.take (i := 15) rfl (by kernel_rfl) (by kernel_rfl) (by kernel_rfl) rfl rfl (OpV.move (.inr rfl) rfl) ?_
  refine VA.done (by kernel_rfl) ?_
  show VC _ _ _ _ _
  refine VC.seq ?_
  refine VC.draw (fun _ => NoB) hB (by kernel_rfl) ?_
  refine VA.take (i := 0) rfl (by kernel_rfl) (by kernel_rfl) (by kernel_rfl) rfl rfl (OpV.indexAddr_arr rfl Tryd.underlying29 Tryd.sizeOf27 rfl rfl (by omega) (by omega)) ?_
  first
    | refine VA.take (i := 1) rfl (by kernel_rfl) (by kernel_rfl) (by kernel_rfl) rfl rfl (OpV.fieldAddr_atO 0 rfl Tryd.underlying27 rfl rfl Tryd.sizeOf3 rfl rfl) ?_
    | refine VA.take (i := 1) rfl (by kernel_rfl) (by kernel_rfl) (by kernel_rfl) rfl rfl (OpV.fieldAddrO 0 rfl Tryd.underlying27 rfl rfl Tryd.sizeOf3 rfl) ?_
  refine VA.take (i := 2) rfl (by kernel_rfl) (by kernel_rfl) (by kernel_rfl) rfl rfl (OpV.load_own (i := 1) rfl hB Tryd.isAgg3 rfl rfl rfl Wi.not0) ?_
  refine VA.take (i := 3) rfl (by kernel_rfl) (by kernel_rfl) (by kernel_rfl) rfl rfl (OpV.indexAddr_arr rfl Tryd.underlying29 Tryd.sizeOf27 rfl rfl (by omega) (by omega)) ?_
  first
    | refine VA.take (i := 4) rfl (by kernel_rfl) (by kernel_rfl) (by kernel_rfl) rfl rfl (OpV.fieldAddr_atO 0 rfl Tryd.underlying27 rfl rfl Tryd.sizeOf3 rfl rfl) ?_
    | refine VA.take (i := 4) rfl (by kernel_rfl) (by kernel_rfl) (by kernel_rfl) rfl rfl (OpV.fieldAddrO 0 rfl Tryd.underlying27 rfl rfl Tryd.sizeOf3 rfl) ?_
  refine VA.take (i := 5) rfl (by kernel_rfl) (by kernel_rfl) (by kernel_rfl) rfl rfl (OpV.load_own (i := 1) rfl hB Tryd.isAgg3 rfl rfl rfl Wi.not0) ?_
  refine VA.take (i := 6) rfl (by kernel_rfl) (by kernel_rfl) (by kernel_rfl) rfl rfl (OpV.sub rfl rfl rfl (by unfold fits; omega)) ?_
  rw [m1]
  refine VA.take (i := 7) rfl (by kernel_rfl) (by kernel_rfl) (by kernel_rfl) rfl rfl (OpV.indexAddr_arr rfl Tryd.underlying29 Tryd.sizeOf27 rfl rfl (by omega) (by omega)) ?_
  first
    | refine VA.take (i := 8) rfl (by kernel_rfl) (by kernel_rfl) (by kernel_rfl) rfl rfl (OpV.fieldAddr_atO 1 rfl Tryd.underlying27 rfl rfl Tryd.sizeOf3 rfl rfl) ?_
    | refine VA.take (i := 8) rfl (by kernel_rfl) (by kernel_rfl) (by kernel_rfl) rfl rfl (OpV.fieldAddrO 1 rfl Tryd.underlying27 rfl rfl Tryd.sizeOf3 rfl) ?_
  refine VA.take (i := 9) rfl (by kernel_rfl) (by kernel_rfl) (by kernel_rfl) rfl rfl (OpV.load_own (i := 1) rfl hB Tryd.isAgg3 rfl rfl rfl Wi.not0) ?_
  refine VA.take (i := 10) rfl (by kernel_rfl) (by kernel_rfl) (by kernel_rfl) rfl rfl (OpV.indexAddr_arr rfl Tryd.underlying29 Tryd.sizeOf27 rfl rfl (by omega) (by omega)) ?_
  first
    | refine VA.take (i := 11) rfl (by kernel_rfl) (by kernel_rfl) (by kernel_rfl) rfl rfl (OpV.fieldAddr_atO 1 rfl Tryd.underlying27 rfl rfl Tryd.sizeOf3 rfl rfl) ?_
    | refine VA.take (i := 11) rfl (by kernel_rfl) (by kernel_rfl) (by kernel_rfl) rfl rfl (OpV.fieldAddrO 1 rfl Tryd.underlying27 rfl rfl Tryd.sizeOf3 rfl) ?_
  refine VA.take (i := 12) rfl (by kernel_rfl) (by kernel_rfl) (by kernel_rfl) rfl rfl (OpV.load_own (i := 1) rfl hB Tryd.isAgg3 rfl rfl rfl Wi.not0) ?_
  refine VA.take (i := 13) rfl (by kernel_rfl) (by kernel_rfl) (by kernel_rfl) rfl rfl (OpV.sub rfl rfl rfl (by unfold fits; omega)) ?_
  rw [m2]
  refine VA.take (i := 14) rfl (by kernel_rfl) (by kernel_rfl) (by kernel_rfl) rfl rfl (OpV.move (.inr rfl) rfl) ?_
  refine VA.take (i := 15) rfl (by kernel_rfl) (by kernel_rfl) (by kernel_rfl) rfl rfl (OpV.move (.inr rfl) rfl) ?_
  refine VA.done (by kernel_rfl) ?_
  show VC _ _ _ _ _
  refine VC.seq ?_
  refine VC.region ?_
  refine VO.val rfl rfl (OpV.move (.inl rfl) rfl) ?_
  refine VO.val rfl rfl (OpV.move (.inl rfl) rfl) ?_
  refine VO.val rfl rfl (OpV.mul rfl rfl rfl (by unfold fits; omega)) ?_
  refine VO.val rfl rfl (OpV.move (.inl rfl) rfl) ?_
  refine VO.val rfl rfl (OpV.move (.inl rfl) rfl) ?_
  refine VO.val rfl rfl (OpV.mul rfl rfl rfl (by unfold fits; omega)) ?_
  refine VO.val rfl rfl (OpV.add rfl rfl rfl (by unfold fits; omega)) ?_
  rw [show n.x * n.x + n.y * n.y = sqP n from rfl]
  refine VO.op rfl (OpE.alloc rfl hB rfl Tryd.zeroValue3 rfl ?_)
  intro g11
  refine VO.op rfl (OpE.store (i := 4) rfl hB rfl Tryd.sizeOf3 rfl rfl rfl rfl rfl rfl (Nat.le_of_ble_eq_true rfl) trivial ?_)
  refine VO.nil ?_
  show VC _ _ _ _ _
  refine VC.seq ?_
  refine VC.region ?_
  refine VO.val rfl rfl (OpV.move (.inl rfl) rfl) ?_
  refine VO.val rfl rfl (OpV.move (.inl rfl) rfl) ?_
  refine VO.val rfl rfl (OpV.mul rfl rfl rfl (by unfold fits; omega)) ?_
  refine VO.val rfl rfl (OpV.move (.inl rfl) rfl) ?_
  refine VO.val rfl rfl (OpV.move (.inl rfl) rfl) ?_
  refine VO.val rfl rfl (OpV.mul rfl rfl rfl (by unfold fits; omega)) ?_
  refine VO.val rfl rfl (OpV.add rfl rfl rfl (by unfold fits; omega)) ?_
  rw [show m.x * n.x + m.y * n.y = reP n m from rfl]
  refine VO.val rfl rfl (OpV.move (.inl rfl) rfl) ?_
  refine VO.val rfl rfl (OpV.move (.inl rfl) rfl) ?_
  refine VO.val rfl rfl (OpV.mul rfl rfl rfl (by unfold fits; omega)) ?_
  refine VO.val rfl rfl (OpV.move (.inl rfl) rfl) ?_
  refine VO.val rfl rfl (OpV.move (.inl rfl) rfl) ?_
  refine VO.val rfl rfl (OpV.mul rfl rfl rfl (by unfold fits; omega)) ?_
  refine VO.val rfl rfl (OpV.sub rfl rfl rfl (by unfold fits; omega)) ?_
  rw [show m.y * n.x - m.x * n.y = imP n m from rfl]
  refine VO.val rfl rfl (OpV.move (.inr rfl) rfl) ?_
  refine VO.val rfl rfl (OpV.move (.inr rfl) rfl) ?_
  refine VO.nil ?_
  show VC _ _ _ _ _
  refine VC.seq ?_
  refine VC.draw (fun _ => NoB) hB (by kernel_rfl) ?_
  first
    | refine VA.take (i := 0) rfl (by kernel_rfl) (by kernel_rfl) (by kernel_rfl) rfl rfl (OpV.fieldAddr_atO 0 rfl Tryd.underlying27 rfl rfl Tryd.sizeOf3 rfl rfl) ?_
    | refine VA.take (i := 0) rfl (by kernel_rfl) (by kernel_rfl) (by kernel_rfl) rfl rfl (OpV.fieldAddrO 0 rfl Tryd.underlying27 rfl rfl Tryd.sizeOf3 rfl) ?_
  refine VA.take (i := 1) rfl (by kernel_rfl) (by kernel_rfl) (by kernel_rfl) rfl rfl (OpV.load_own (i := 2) rfl hB Tryd.isAgg3 rfl rfl rfl Wi.not0) ?_
  refine VA.take (i := 2) rfl (by kernel_rfl) (by kernel_rfl) (by kernel_rfl) rfl rfl (OpV.indexAddr_arr rfl Tryd.underlying29 Tryd.sizeOf27 rfl rfl (by omega) (by omega)) ?_
  first
    | refine VA.take (i := 3) rfl (by kernel_rfl) (by kernel_rfl) (by kernel_rfl) rfl rfl (OpV.fieldAddr_atO 0 rfl Tryd.underlying27 rfl rfl Tryd.sizeOf3 rfl rfl) ?_
    | refine VA.take (i := 3) rfl (by kernel_rfl) (by kernel_rfl) (by kernel_rfl) rfl rfl (OpV.fieldAddrO 0 rfl Tryd.underlying27 rfl rfl Tryd.sizeOf3 rfl) ?_
  refine VA.take (i := 4) rfl (by kernel_rfl) (by kernel_rfl) (by kernel_rfl) rfl rfl (OpV.load_own (i := 0) rfl hB Tryd.isAgg3 rfl rfl rfl Wi.not0) ?_
  refine VA.take (i := 5) rfl (by kernel_rfl) (by kernel_rfl) (by kernel_rfl) rfl rfl (OpV.sub rfl rfl rfl (by unfold fits; omega)) ?_
  rw [z1]
  first
    | refine VA.take (i := 6) rfl (by kernel_rfl) (by kernel_rfl) (by kernel_rfl) rfl rfl (OpV.fieldAddr_atO 1 rfl Tryd.underlying27 rfl rfl Tryd.sizeOf3 rfl rfl) ?_
    | refine VA.take (i := 6) rfl (by kernel_rfl) (by kernel_rfl) (by kernel_rfl) rfl rfl (OpV.fieldAddrO 1 rfl Tryd.underlying27 rfl rfl Tryd.sizeOf3 rfl) ?_
  refine VA.take (i := 7) rfl (by kernel_rfl) (by kernel_rfl) (by kernel_rfl) rfl rfl (OpV.load_own (i := 2) rfl hB Tryd.isAgg3 rfl rfl rfl Wi.not0) ?_
  refine VA.take (i := 8) rfl (by kernel_rfl) (by kernel_rfl) (by kernel_rfl) rfl rfl (OpV.indexAddr_arr rfl Tryd.underlying29 Tryd.sizeOf27 rfl rfl (by omega) (by omega)) ?_
  first
    | refine VA.take (i := 9) rfl (by kernel_rfl) (by kernel_rfl) (by kernel_rfl) rfl rfl (OpV.fieldAddr_atO 1 rfl Tryd.underlying27 rfl rfl Tryd.sizeOf3 rfl rfl) ?_
    | refine VA.take (i := 9) rfl (by kernel_rfl) (by kernel_rfl) (by kernel_rfl) rfl rfl (OpV.fieldAddrO 1 rfl Tryd.underlying27 rfl rfl Tryd.sizeOf3 rfl) ?_
  refine VA.take (i := 10) rfl (by kernel_rfl) (by kernel_rfl) (by kernel_rfl) rfl rfl (OpV.load_own (i := 0) rfl hB Tryd.isAgg3 rfl rfl rfl Wi.not0) ?_
  refine VA.take (i := 11) rfl (by kernel_rfl) (by kernel_rfl) (by kernel_rfl) rfl rfl (OpV.sub rfl rfl rfl (by unfold fits; omega)) ?_
  rw [z2]
  refine VA.take (i := 12) rfl (by kernel_rfl) (by kernel_rfl) (by kernel_rfl) rfl rfl (OpV.move (.inr rfl) rfl) ?_
  refine VA.take (i := 13) rfl (by kernel_rfl) (by kernel_rfl) (by kernel_rfl) rfl rfl (OpV.move (.inr rfl) rfl) ?_
  refine VA.done (by kernel_rfl) ?_
  show VC _ _ _ _ _
  refine VC.seq ?_
  refine VC.le _ (Le.freezeAt (t := 11) (m := 1) (f := fun _ => avI (sqP n)) (i := 4) rfl rfl (Nat.le_refl _) (fun w Z u h => h.at1 rfl) hnew hB) ?_
  refine VC.region ?_
  refine VO.val rfl rfl (OpV.makeFuncF1 rfl rfl) ?_
  refine VO.val rfl rfl (OpV.move (.inr rfl) rfl) ?_
  refine VO.nil ?_
  show VC _ _ _ _ _
  refine VC.seq ?_
  refine VC.draw (fun j b => j = 27 ∧ b = g6) hB (by kernel_rfl) ?_
  refine VA.take (i := 0) rfl (by kernel_rfl) (by kernel_rfl) (by kernel_rfl) rfl rfl (OpV.indexAddr_arr rfl Tryd.underlying29 Tryd.sizeOf27 rfl rfl (by omega) (by omega)) ?_
  first
    | refine VA.take (i := 1) rfl (by kernel_rfl) (by kernel_rfl) (by kernel_rfl) rfl rfl (OpV.fieldAddr_atO 0 rfl Tryd.underlying27 rfl rfl Tryd.sizeOf3 rfl rfl) ?_
    | refine VA.take (i := 1) rfl (by kernel_rfl) (by kernel_rfl) (by kernel_rfl) rfl rfl (OpV.fieldAddrO 0 rfl Tryd.underlying27 rfl rfl Tryd.sizeOf3 rfl) ?_
  first
    | refine VA.take (i := 2) rfl (by kernel_rfl) (by kernel_rfl) (by kernel_rfl) rfl rfl (OpV.load_at rfl hB (by first | exact OutW.wi1 (k := 0) rfl rfl | exact OutW.wi1 (k := 1) rfl rfl | exact OutW.wi1 (k := 2) rfl rfl | exact OutW.wi1 (k := 3) rfl rfl | exact OutW.wi1 (k := 4) rfl rfl) Tryd.isAgg3 rfl rfl) ?_
    | refine VA.take (i := 2) rfl (by kernel_rfl) (by kernel_rfl) (by kernel_rfl) rfl rfl (OpV.load_own (i := 0) rfl hB Tryd.isAgg3 rfl rfl rfl (by first | exact Wi.not1 (by kernel_rfl) | exact Wi.not2 (by kernel_rfl) (by kernel_rfl) | exact Wi.notX (by kernel_rfl))) ?_
    | refine VA.take (i := 2) rfl (by kernel_rfl) (by kernel_rfl) (by kernel_rfl) rfl rfl (OpV.load_own (i := 1) rfl hB Tryd.isAgg3 rfl rfl rfl (by first | exact Wi.not1 (by kernel_rfl) | exact Wi.not2 (by kernel_rfl) (by kernel_rfl) | exact Wi.notX (by kernel_rfl))) ?_
    | refine VA.take (i := 2) rfl (by kernel_rfl) (by kernel_rfl) (by kernel_rfl) rfl rfl (OpV.load_own (i := 2) rfl hB Tryd.isAgg3 rfl rfl rfl (by first | exact Wi.not1 (by kernel_rfl) | exact Wi.not2 (by kernel_rfl) (by kernel_rfl) | exact Wi.notX (by kernel_rfl))) ?_
    | refine VA.take (i := 2) rfl (by kernel_rfl) (by kernel_rfl) (by kernel_rfl) rfl rfl (OpV.load_own (i := 3) rfl hB Tryd.isAgg3 rfl rfl rfl (by first | exact Wi.not1 (by kernel_rfl) | exact Wi.not2 (by kernel_rfl) (by kernel_rfl) | exact Wi.notX (by kernel_rfl))) ?_
    | refine VA.take (i := 2) rfl (by kernel_rfl) (by kernel_rfl) (by kernel_rfl) rfl rfl (OpV.load_own (i := 4) rfl hB Tryd.isAgg3 rfl rfl rfl (by first | exact Wi.not1 (by kernel_rfl) | exact Wi.not2 (by kernel_rfl) (by kernel_rfl) | exact Wi.notX (by kernel_rfl))) ?_
  refine VA.take (i := 3) rfl (by kernel_rfl) (by kernel_rfl) (by kernel_rfl) rfl rfl (OpV.move (.inl rfl) rfl) ?_
  refine VA.take (i := 4) rfl (by kernel_rfl) (by kernel_rfl) (by kernel_rfl) rfl rfl (OpV.move (.inl rfl) rfl) ?_
  refine VA.take (i := 5) rfl (by kernel_rfl) (by kernel_rfl) (by kernel_rfl) rfl rfl (OpV.move (.inl rfl) rfl) ?_
  refine VA.take (i := 6) rfl (by kernel_rfl) (by kernel_rfl) (by kernel_rfl) rfl rfl (OpV.mul rfl rfl rfl (by unfold fits; omega)) ?_
  refine VA.take (i := 7) rfl (by kernel_rfl) (by kernel_rfl) (by kernel_rfl) rfl rfl (OpV.move (.inl rfl) rfl) ?_
  refine VA.take (i := 8) rfl (by kernel_rfl) (by kernel_rfl) (by kernel_rfl) rfl rfl (OpV.move (.inl rfl) rfl) ?_
  refine VA.take (i := 9) rfl (by kernel_rfl) (by kernel_rfl) (by kernel_rfl) rfl rfl (OpV.mul rfl rfl rfl (by unfold fits; omega)) ?_
  refine VA.take (i := 10) rfl (by kernel_rfl) (by kernel_rfl) (by kernel_rfl) rfl rfl (OpV.sub rfl rfl rfl (by unfold fits; omega)) ?_
  refine VA.take (i := 13) rfl (by kernel_rfl) (by kernel_rfl) (by kernel_rfl) rfl rfl (OpV.indexAddr_arr rfl Tryd.underlying29 Tryd.sizeOf27 rfl rfl (by omega) (by omega)) ?_
  first
    | refine VA.take (i := 14) rfl (by kernel_rfl) (by kernel_rfl) (by kernel_rfl) rfl rfl (OpV.fieldAddr_atO 1 rfl Tryd.underlying27 rfl rfl Tryd.sizeOf3 rfl rfl) ?_
    | refine VA.take (i := 14) rfl (by kernel_rfl) (by kernel_rfl) (by kernel_rfl) rfl rfl (OpV.fieldAddrO 1 rfl Tryd.underlying27 rfl rfl Tryd.sizeOf3 rfl) ?_
  first
    | refine VA.take (i := 15) rfl (by kernel_rfl) (by kernel_rfl) (by kernel_rfl) rfl rfl (OpV.load_at rfl hB (by first | exact OutW.wi1 (k := 0) rfl rfl | exact OutW.wi1 (k := 1) rfl rfl | exact OutW.wi1 (k := 2) rfl rfl | exact OutW.wi1 (k := 3) rfl rfl | exact OutW.wi1 (k := 4) rfl rfl) Tryd.isAgg3 rfl rfl) ?_
    | refine VA.take (i := 15) rfl (by kernel_rfl) (by kernel_rfl) (by kernel_rfl) rfl rfl (OpV.load_own (i := 0) rfl hB Tryd.isAgg3 rfl rfl rfl (by first | exact Wi.not1 (by kernel_rfl) | exact Wi.not2 (by kernel_rfl) (by kernel_rfl) | exact Wi.notX (by kernel_rfl))) ?_
    | refine VA.take (i := 15) rfl (by kernel_rfl) (by kernel_rfl) (by kernel_rfl) rfl rfl (OpV.load_own (i := 1) rfl hB Tryd.isAgg3 rfl rfl rfl (by first | exact Wi.not1 (by kernel_rfl) | exact Wi.not2 (by kernel_rfl) (by kernel_rfl) | exact Wi.notX (by kernel_rfl))) ?_
    | refine VA.take (i := 15) rfl (by kernel_rfl) (by kernel_rfl) (by kernel_rfl) rfl rfl (OpV.load_own (i := 2) rfl hB Tryd.isAgg3 rfl rfl rfl (by first | exact Wi.not1 (by kernel_rfl) | exact Wi.not2 (by kernel_rfl) (by kernel_rfl) | exact Wi.notX (by kernel_rfl))) ?_
    | refine VA.take (i := 15) rfl (by kernel_rfl) (by kernel_rfl) (by kernel_rfl) rfl rfl (OpV.load_own (i := 3) rfl hB Tryd.isAgg3 rfl rfl rfl (by first | exact Wi.not1 (by kernel_rfl) | exact Wi.not2 (by kernel_rfl) (by kernel_rfl) | exact Wi.notX (by kernel_rfl))) ?_
    | refine VA.take (i := 15) rfl (by kernel_rfl) (by kernel_rfl) (by kernel_rfl) rfl rfl (OpV.load_own (i := 4) rfl hB Tryd.isAgg3 rfl rfl rfl (by first | exact Wi.not1 (by kernel_rfl) | exact Wi.not2 (by kernel_rfl) (by kernel_rfl) | exact Wi.notX (by kernel_rfl))) ?_
  refine VA.take (i := 16) rfl (by kernel_rfl) (by kernel_rfl) (by kernel_rfl) rfl rfl (OpV.move (.inl rfl) rfl) ?_
  refine VA.take (i := 17) rfl (by kernel_rfl) (by kernel_rfl) (by kernel_rfl) rfl rfl (OpV.move (.inl rfl) rfl) ?_
  refine VA.take (i := 18) rfl (by kernel_rfl) (by kernel_rfl) (by kernel_rfl) rfl rfl (OpV.move (.inl rfl) rfl) ?_
  refine VA.take (i := 19) rfl (by kernel_rfl) (by kernel_rfl) (by kernel_rfl) rfl rfl (OpV.mul rfl rfl rfl (by unfold fits; omega)) ?_
  refine VA.take (i := 20) rfl (by kernel_rfl) (by kernel_rfl) (by kernel_rfl) rfl rfl (OpV.move (.inl rfl) rfl) ?_
  refine VA.take (i := 21) rfl (by kernel_rfl) (by kernel_rfl) (by kernel_rfl) rfl rfl (OpV.move (.inl rfl) rfl) ?_
  refine VA.take (i := 22) rfl (by kernel_rfl) (by kernel_rfl) (by kernel_rfl) rfl rfl (OpV.mul rfl rfl rfl (by unfold fits; omega)) ?_
  refine VA.take (i := 23) rfl (by kernel_rfl) (by kernel_rfl) (by kernel_rfl) rfl rfl (OpV.add rfl rfl rfl (by unfold fits; omega)) ?_
  refine VA.all (rs := [11]) (by kernel_rfl) (by decide) ?_
  refine ⟨⟨_, rfl, .inl rfl, ?_⟩, trivial⟩
  refine OpE.callF rfl hB rfl Tryd.call46 rfl rfl (SpecN.spec (rf_CorrectedBy1 (n := z.x * reP n m - z.y * imP n m) (c := sqP n) (by omega) (by omega))) ?_
  rintro _ rfl
  refine VA.take (i := 12) rfl (by kernel_rfl) (by kernel_rfl) (by kernel_rfl) rfl rfl (OpV.add rfl rfl rfl (by have h1 := round_bd (n := z.x * reP n m - z.y * imP n m) hsq.1 (by omega); unfold fits; omega)) ?_
  refine VA.all (rs := [24]) (by kernel_rfl) (by decide) ?_
  refine ⟨⟨_, rfl, .inl rfl, ?_⟩, trivial⟩
  refine OpE.callF rfl hB rfl Tryd.call46 rfl rfl (SpecN.spec (rf_CorrectedBy1 (n := z.x * imP n m + z.y * reP n m) (c := sqP n) (by omega) (by omega))) ?_
  rintro _ rfl
  refine VA.take (i := 25) rfl (by kernel_rfl) (by kernel_rfl) (by kernel_rfl) rfl rfl (OpV.add rfl rfl rfl (by have h1 := round_bd (n := z.x * imP n m + z.y * reP n m) hsq.1 (by omega); unfold fits; omega)) ?_
  refine VA.take (i := 26) rfl (by kernel_rfl) (by kernel_rfl) (by kernel_rfl) rfl rfl (OpV.build (pls := #[(0, 1), (1, 1)]) rfl Tryd.zeroValue27 Tryd.underlying27 (fun w => by kernel_rfl) rfl rfl) ?_
  refine VA.all (rs := [27]) (by kernel_rfl) (by decide) ?_
  refine ⟨⟨_, rfl, .inl rfl, ?_⟩, trivial⟩
  first
    | refine OpE.store (i := 0) rfl hB rfl Tryd.sizeOf27 rfl rfl rfl rfl rfl rfl (Nat.le_of_ble_eq_true rfl) (by first | exact ⟨rfl, rfl⟩ | exact .inl ⟨rfl, rfl⟩ | exact .inr ⟨rfl, rfl⟩ | exact ⟨rfl, trivial⟩ | exact .inl ⟨rfl, trivial⟩ | exact .inr ⟨rfl, trivial⟩) ?_
    | refine OpE.store (i := 1) rfl hB rfl Tryd.sizeOf27 rfl rfl rfl rfl rfl rfl (Nat.le_of_ble_eq_true rfl) (by first | exact ⟨rfl, rfl⟩ | exact .inl ⟨rfl, rfl⟩ | exact .inr ⟨rfl, rfl⟩ | exact ⟨rfl, trivial⟩ | exact .inl ⟨rfl, trivial⟩ | exact .inr ⟨rfl, trivial⟩) ?_
    | refine OpE.store (i := 2) rfl hB rfl Tryd.sizeOf27 rfl rfl rfl rfl rfl rfl (Nat.le_of_ble_eq_true rfl) (by first | exact ⟨rfl, rfl⟩ | exact .inl ⟨rfl, rfl⟩ | exact .inr ⟨rfl, rfl⟩ | exact ⟨rfl, trivial⟩ | exact .inl ⟨rfl, trivial⟩ | exact .inr ⟨rfl, trivial⟩) ?_
    | refine OpE.store (i := 3) rfl hB rfl Tryd.sizeOf27 rfl rfl rfl rfl rfl rfl (Nat.le_of_ble_eq_true rfl) (by first | exact ⟨rfl, rfl⟩ | exact .inl ⟨rfl, rfl⟩ | exact .inr ⟨rfl, rfl⟩ | exact ⟨rfl, trivial⟩ | exact .inl ⟨rfl, trivial⟩ | exact .inr ⟨rfl, trivial⟩) ?_
    | refine OpE.store (i := 4) rfl hB rfl Tryd.sizeOf27 rfl rfl rfl rfl rfl rfl (Nat.le_of_ble_eq_true rfl) (by first | exact ⟨rfl, rfl⟩ | exact .inl ⟨rfl, rfl⟩ | exact .inr ⟨rfl, rfl⟩ | exact ⟨rfl, trivial⟩ | exact .inl ⟨rfl, trivial⟩ | exact .inr ⟨rfl, trivial⟩) ?_
  refine VA.done (by kernel_rfl) ?_
  show VC _ _ _ _ _
  refine VC.ret ?_
  exact Exists.intro _ (And.intro (RetN.one Tryd.results10 ((by first | exact ResN.cellF (i := 0) Tryd.isAgg27 Tryd.sizeOf27 rfl rfl rfl (flat_ofB rfl) | exact ResN.cellF (i := 1) Tryd.isAgg27 Tryd.sizeOf27 rfl rfl rfl (flat_ofB rfl) | exact ResN.cellF (i := 2) Tryd.isAgg27 Tryd.sizeOf27 rfl rfl rfl (flat_ofB rfl) | exact ResN.cellF (i := 3) Tryd.isAgg27 Tryd.sizeOf27 rfl rfl rfl (flat_ofB rfl) | exact ResN.cellF (i := 4) Tryd.isAgg27 Tryd.sizeOf27 rfl rfl rfl (flat_ofB rfl)))) (by rw [corrR_ref h00, ← hn, ← hm, ← hz]; rfl))
end Go.Proofs.YtgikefjbdhnffaaDoor
