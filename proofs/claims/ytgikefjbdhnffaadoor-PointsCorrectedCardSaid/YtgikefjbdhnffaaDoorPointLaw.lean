/- The walk of the law PointsCorrected. -/
import Derived.Test.YtgikefjbdhnffaaDoorPointS3
import Derived.Test.YtgikefjbdhnffaaDoorPanFact
import Derived.Test.YtgikefjbdhnffaaDoorLaw0
namespace Go.Proofs.YtgikefjbdhnffaaDoor
open Go.RowKit
set_option linter.unusedVariables false
set_option linter.unusedSimpArgs false
set_option maxRecDepth 100000 in
set_option maxHeartbeats 40000000 in
theorem pointsCorrected_any (a0 : Option Addr) (cap0 : Nat) (L : List Int) (w : World) (hin : Inp w a0 L) :
    Calls Tryd.prog 3 #[.slice a0 L.length cap0] w fun e w' => e = .returned (.bool true) ∧ Chg NoB w w' := by
  refine law_calls Tryd.func3 rfl Tryd.ntmps3 (Nat.le_of_ble_eq_true rfl) Tryd.results3 ?_
  have hB := B0.ok w (fun _ => True) 85
  have hnew : True := trivial
  refine VC.seq ?_
  refine VC.region ?_
  refine VO.val rfl rfl (OpV.move (.inr rfl) rfl) ?_
  refine VO.nil ?_
  show VC _ _ _ _ _
  refine VC.seq ?_
  refine VC.region ?_
  refine VO.val rfl rfl (OpV.move (.inl rfl) rfl) ?_
  refine VO.val rfl rfl (OpV.build (pls := #[(0, 1), (1, 1)]) rfl Tryd.zeroValue25 Tryd.underlying25 (fun w => by kernel_rfl) rfl rfl) ?_
  refine VO.op rfl (OpE.box rfl hB rfl rfl rfl ?_)
  intro g
  refine VO.val rfl rfl (OpV.move (.inr rfl) rfl) ?_
  refine VO.nil ?_
  show VC _ _ _ _ _
  refine VC.stream (i := 0) (sl := [(3, sp g)]) (by exact rfl) (by exact rfl) hin (by exact ⟨rfl, trivial⟩) (fun p hp => by simp at hp; subst hp; exact ⟨_, rfl⟩) (fun w1 hge hB => ?_)
  refine VC.seq ?_
  refine VC.region ?_
  refine VO.val rfl rfl (OpV.move (.inl rfl) rfl) ?_
  refine VO.op rfl (OpE.callT' (0) rfl rfl hB rfl Tryd.call6 rfl (aPoint_T) (by omega) ?_)
  rintro _ ⟨a, ha, rfl⟩
  refine VO.val rfl rfl (OpV.move (.inl rfl) rfl) ?_
  refine VO.op rfl (OpE.callT' (0 + 7) rfl rfl hB rfl Tryd.call6 rfl (aPoint_T) (by omega) ?_)
  rintro _ ⟨b, hb, rfl⟩
  refine VO.val rfl rfl (OpV.buildArr rfl Tryd.zeroValue29 Tryd.underlying29 Tryd.sizeOf27 rfl rfl) ?_
  refine VO.val rfl rfl (OpV.move (.inl rfl) rfl) ?_
  refine VO.op rfl (OpE.callT' (0 + 7 + 7) rfl rfl hB rfl Tryd.call6 rfl (aPoint_T) (by omega) ?_)
  rintro _ ⟨c, hc, rfl⟩
  refine VO.val rfl rfl (OpV.move (.inl rfl) rfl) ?_
  refine VO.op rfl (OpE.callT' (0 + 7 + 7 + 7) rfl rfl hB rfl Tryd.call6 rfl (aPoint_T) (by omega) ?_)
  rintro _ ⟨d, hd, rfl⟩
  refine VO.val rfl rfl (OpV.buildArr rfl Tryd.zeroValue29 Tryd.underlying29 Tryd.sizeOf27 rfl rfl) ?_
  refine VO.val rfl rfl (OpV.move (.inl rfl) rfl) ?_
  refine VO.op rfl (OpE.callT' (0 + 7 + 7 + 7 + 7) rfl rfl hB rfl Tryd.call6 rfl (aPoint_T) (by omega) ?_)
  rintro _ ⟨p, hp, rfl⟩
  obtain ⟨e1, he1⟩ : ∃ e, pointsE a b c d [p] = e := ⟨_, rfl⟩
  obtain ⟨e2, he2⟩ : ∃ e, pointsE a b c d [] = e := ⟨_, rfl⟩
  obtain ⟨cr, hcr⟩ : ∃ z, corrR a b c d p = z := ⟨_, rfl⟩
  obtain ⟨fr, hfr⟩ : ∃ z, strF a b c d = z := ⟨_, rfl⟩
  have hC := panel_Corrected (a := a) (b := b) (c := c) (d := d) (p := p)
  rw [hcr, he1] at hC
  have hS := panel_Stretch (a := a) (b := b) (c := c) (d := d)
  rw [hfr, he2] at hS
  have hP1 := rf_PointsFault (a := a) (b := b) (c := c) (d := d) (more := [p]) (by simp)
  rw [he1] at hP1
  have hP2 := rf_PointsFault (a := a) (b := b) (c := c) (d := d) (more := []) (by simp)
  rw [he2] at hP2
  have hR1 : e1 = 0 → SpecN Tryd.prog 10 [avPt2 a b, avPt2 c d, avPt p] (fun y => y = avPt cr) := fun h => by rw [← hcr]; exact rf_CorrectedBy (he1.trans h)
  have hR2 : e2 = 0 → SpecN Tryd.prog 11 [avPt2 a b, avPt2 c d] (fun y => y = avFr fr) := fun h => by rw [← hfr]; exact rf_StretchOf (he2.trans h)
  have hz1 : e1 ≠ 0 → cr.x = 0 ∧ cr.y = 0 := fun h => by rw [← hcr, corrR, if_neg (by rw [he1]; exact h)]; exact ⟨rfl, rfl⟩
  have hz2 : e2 ≠ 0 → fr.1 = 0 ∧ fr.2 = 0 := fun h => by rw [← hfr, strF, if_neg (by rw [he2]; exact h)]; exact ⟨rfl, rfl⟩
  clear he1 he2 hcr hfr
  refine VO.op rfl (OpE.alloc rfl hB rfl Tryd.zeroValue29 rfl ?_)
  intro g4
  refine VO.op rfl (OpE.alloc rfl hB rfl Tryd.zeroValue29 rfl ?_)
  intro g5
  refine VO.op rfl (OpE.alloc rfl hB rfl Tryd.zeroValue27 rfl ?_)
  intro g6
  refine VO.op rfl (OpE.store (i := 0) rfl hB rfl Tryd.sizeOf29 rfl rfl rfl rfl rfl rfl (Nat.le_of_ble_eq_true rfl) trivial ?_)
  refine VO.op rfl (OpE.store (i := 1) rfl hB rfl Tryd.sizeOf29 rfl rfl rfl rfl rfl rfl (Nat.le_of_ble_eq_true rfl) trivial ?_)
  refine VO.op rfl (OpE.store (i := 2) rfl hB rfl Tryd.sizeOf27 rfl rfl rfl rfl rfl rfl (Nat.le_of_ble_eq_true rfl) trivial ?_)
  refine VO.nil ?_
  show VC _ _ _ _ _
  refine VC.seq ?_
  refine VC.le ⟨[(3, _), (4, _), (5, _), (6, _)], [.box _ ⟨[_, _, _, _], _, _⟩, .box _ ⟨[_, _, _, _], _, _⟩, .box _ ⟨[_, _], _, _⟩], 0 + 7 + 7 + 7 + 7 + 7⟩ (Le.mk hB [0, 1, 2] ⟨rfl, rfl, rfl, rfl, trivial⟩ rfl rfl (Nat.le_refl _)) ?_
  refine VC.region ?_
  refine VO.val rfl rfl (OpV.loadK_own (i := 0) rfl hB Tryd.isAgg29 Tryd.sizeOf29 rfl rfl rfl (fun h => h)) ?_
  refine VO.val rfl rfl (OpV.loadK_own (i := 1) rfl hB Tryd.isAgg29 Tryd.sizeOf29 rfl rfl rfl (fun h => h)) ?_
  refine VO.val rfl rfl (OpV.loadK_own (i := 2) rfl hB Tryd.isAgg27 Tryd.sizeOf27 rfl rfl rfl (fun h => h)) ?_
  refine VO.op rfl (OpE.call rfl hB rfl Tryd.call7 rfl (SpecN.spec (hC)) ?_)
  rintro _ rfl
  refine VO.val rfl rfl (OpV.move (.inl rfl) rfl) ?_
  first
    | refine VO.val rfl rfl (OpV.extract rfl rfl rfl) ?_
    | refine VO.val rfl rfl (OpV.extract_v rfl rfl rfl) ?_
  first
    | refine VO.val rfl rfl (OpV.extract rfl rfl rfl) ?_
    | refine VO.val rfl rfl (OpV.extract_v rfl rfl rfl) ?_
  refine VO.op rfl (OpE.alloc rfl hB rfl Tryd.zeroValue27 rfl ?_)
  intro g7
  refine VO.op rfl (OpE.store (i := 3) rfl hB rfl Tryd.sizeOf27 rfl rfl rfl rfl rfl rfl (Nat.le_of_ble_eq_true rfl) trivial ?_)
  refine VO.val rfl rfl (OpV.move (.inr rfl) rfl) ?_
  refine VO.nil ?_
  show VC _ _ _ _ _
  refine VC.seq ?_
  refine VC.le ⟨[(3, _), (4, _), (5, _), (6, _), (7, _), (8, _)], [.box _ ⟨[_, _, _, _], _, _⟩, .box _ ⟨[_, _, _, _], _, _⟩, .box _ ⟨[_, _], _, _⟩, .box _ ⟨[_, _], _, _⟩], 0 + 7 + 7 + 7 + 7 + 7⟩ (Le.mk hB [0, 1, 2, 3] ⟨rfl, rfl, rfl, rfl, rfl, rfl, trivial⟩ rfl rfl (Nat.le_refl _)) ?_
  refine VC.region ?_
  refine VO.val rfl rfl (OpV.loadK_own (i := 0) rfl hB Tryd.isAgg29 Tryd.sizeOf29 rfl rfl rfl (fun h => h)) ?_
  refine VO.val rfl rfl (OpV.loadK_own (i := 1) rfl hB Tryd.isAgg29 Tryd.sizeOf29 rfl rfl rfl (fun h => h)) ?_
  refine VO.op rfl (OpE.call rfl hB rfl Tryd.call8 rfl (SpecN.spec (hS)) ?_)
  rintro _ rfl
  refine VO.val rfl rfl (OpV.move (.inl rfl) rfl) ?_
  first
    | refine VO.val rfl rfl (OpV.extract rfl rfl rfl) ?_
    | refine VO.val rfl rfl (OpV.extract_v rfl rfl rfl) ?_
  first
    | refine VO.val rfl rfl (OpV.extract rfl rfl rfl) ?_
    | refine VO.val rfl rfl (OpV.extract_v rfl rfl rfl) ?_
  refine VO.op rfl (OpE.alloc rfl hB rfl Tryd.zeroValue34 rfl ?_)
  intro g9
  refine VO.op rfl (OpE.store (i := 4) rfl hB rfl Tryd.sizeOf34 rfl rfl rfl rfl rfl rfl (Nat.le_of_ble_eq_true rfl) trivial ?_)
  refine VO.val rfl rfl (OpV.move (.inr rfl) rfl) ?_
  refine VO.nil ?_
  show VC _ _ _ _ _
  refine VC.seq ?_
  refine VC.le ⟨[(3, _), (4, _), (5, _), (6, _), (7, _), (8, _), (9, _), (10, _)], [.box _ ⟨[_, _, _, _], _, _⟩, .box _ ⟨[_, _, _, _], _, _⟩, .box _ ⟨[_, _], _, _⟩, .box _ ⟨[_, _], _, _⟩, .box _ ⟨[_, _], _, _⟩], 0 + 7 + 7 + 7 + 7 + 7⟩ (Le.mk hB [0, 1, 2, 3, 4] ⟨rfl, rfl, rfl, rfl, rfl, rfl, rfl, rfl, trivial⟩ rfl rfl (Nat.le_refl _)) ?_
  refine VC.draw (fun _ => NoB) hB (by kernel_rfl) ?_
  refine VA.take (i := 0) rfl (by kernel_rfl) (by kernel_rfl) (by kernel_rfl) rfl rfl (OpV.loadK_own (i := 0) rfl hB Tryd.isAgg29 Tryd.sizeOf29 rfl rfl rfl Wi.not0) ?_
  refine VA.take (i := 1) rfl (by kernel_rfl) (by kernel_rfl) (by kernel_rfl) rfl rfl (OpV.loadK_own (i := 1) rfl hB Tryd.isAgg29 Tryd.sizeOf29 rfl rfl rfl Wi.not0) ?_
  refine VA.take (i := 2) rfl (by kernel_rfl) (by kernel_rfl) (by kernel_rfl) rfl rfl (OpV.loadK_own (i := 2) rfl hB Tryd.isAgg27 Tryd.sizeOf27 rfl rfl rfl Wi.not0) ?_
  refine VA.take (i := 5) rfl (by kernel_rfl) (by kernel_rfl) (by kernel_rfl) rfl rfl (OpV.loadK_own (i := 0) rfl hB Tryd.isAgg29 Tryd.sizeOf29 rfl rfl rfl Wi.not0) ?_
  refine VA.take (i := 6) rfl (by kernel_rfl) (by kernel_rfl) (by kernel_rfl) rfl rfl (OpV.loadK_own (i := 1) rfl hB Tryd.isAgg29 Tryd.sizeOf29 rfl rfl rfl Wi.not0) ?_
  refine VA.all (rs := [3]) (by kernel_rfl) (by decide) ?_
  refine ⟨⟨_, rfl, .inl rfl, ?_⟩, trivial⟩
  refine OpE.buildSlice (zc := #[.int .i64 0, .int .i64 0]) rfl hB rfl Tryd.underlying92 Tryd.sizeOf27 Tryd.zeroValue27 (by decide) (by decide) (by kernel_rfl) rfl rfl ?_
  refine VA.le _ (Le.recast (t := 46) (y := avL [p]) rfl (fun w Z u h => Rep.rowL (xs := [p]) rfl h)) ?_
  refine VA.all (rs := [4]) (by kernel_rfl) (by decide) ?_
  refine ⟨⟨_, rfl, .inl rfl, ?_⟩, trivial⟩
  refine OpE.call rfl hB rfl Tryd.call9 rfl (SpecN.spec (hP1)) ?_
  rintro _ rfl
  refine VA.all (rs := [7]) (by kernel_rfl) (by decide) ?_
  refine ⟨⟨_, rfl, .inl rfl, ?_⟩, trivial⟩
  refine OpE.callL rfl hB rfl Tryd.call9 (hP2) (ArgsP.cons (ArgP.ev rfl) (ArgsP.cons (ArgP.ev rfl) (ArgsP.cons (ArgP.nil rfl) (ArgsP.nil)))) ?_
  rintro _ rfl
  refine VA.take (i := 8) rfl (by kernel_rfl) (by kernel_rfl) (by kernel_rfl) rfl rfl (OpV.move (.inr rfl) rfl) ?_
  refine VA.take (i := 9) rfl (by kernel_rfl) (by kernel_rfl) (by kernel_rfl) rfl rfl (OpV.move (.inr rfl) rfl) ?_
  refine VA.done (by kernel_rfl) ?_
  show VC _ _ _ _ _
  refine VC.seq ?_
  refine VC.le ⟨[(3, _), (4, _), (5, _), (6, _), (7, _), (8, _), (9, _), (10, _), (11, _), (12, _)], [.box _ ⟨[_, _, _, _], _, _⟩, .box _ ⟨[_, _, _, _], _, _⟩, .box _ ⟨[_, _], _, _⟩, .box _ ⟨[_, _], _, _⟩, .box _ ⟨[_, _], _, _⟩], 0 + 7 + 7 + 7 + 7 + 7⟩ (Le.mk hB [0, 1, 2, 3, 4] ⟨rfl, rfl, rfl, rfl, rfl, rfl, rfl, rfl, rfl, rfl, trivial⟩ rfl rfl (Nat.le_refl _)) ?_
  refine VC.region ?_
  refine VO.val rfl rfl (OpV.build (pls := #[(0, 1), (1, 1)]) rfl Tryd.zeroValue27 Tryd.underlying27 (fun w => by kernel_rfl) rfl rfl) ?_
  refine VO.val rfl rfl (OpV.build (pls := #[(0, 1), (1, 1)]) rfl Tryd.zeroValue34 Tryd.underlying34 (fun w => by kernel_rfl) rfl rfl) ?_
  refine VO.op rfl (OpE.alloc rfl hB rfl Tryd.zeroValue27 rfl ?_)
  intro g13
  refine VO.op rfl (OpE.alloc rfl hB rfl Tryd.zeroValue34 rfl ?_)
  intro g14
  refine VO.op rfl (OpE.store (i := 5) rfl hB rfl Tryd.sizeOf27 rfl rfl rfl rfl rfl rfl (Nat.le_of_ble_eq_true rfl) trivial ?_)
  refine VO.op rfl (OpE.store (i := 6) rfl hB rfl Tryd.sizeOf34 rfl rfl rfl rfl rfl rfl (Nat.le_of_ble_eq_true rfl) trivial ?_)
  refine VO.nil ?_
  show VC _ _ _ _ _
  refine VC.seq ?_
  refine VC.seq ?_
  refine VC.le ⟨[(3, _), (4, _), (5, _), (6, _), (7, _), (8, _), (9, _), (10, _), (11, _), (12, _), (13, _), (14, _)], [.box _ ⟨[_, _, _, _], _, _⟩, .box _ ⟨[_, _, _, _], _, _⟩, .box _ ⟨[_, _], _, _⟩, .box _ ⟨[_, _], _, _⟩, .box _ ⟨[_, _], _, _⟩, .box _ ⟨[_, _], _, _⟩, .box _ ⟨[_, _], _, _⟩], 0 + 7 + 7 + 7 + 7 + 7⟩ (Le.mk hB [0, 1, 2, 3, 4, 5, 6] ⟨rfl, rfl, rfl, rfl, rfl, rfl, rfl, rfl, rfl, rfl, rfl, rfl, trivial⟩ rfl rfl (Nat.le_refl _)) ?_
  refine VC.region ?_
  refine VO.val rfl rfl (OpV.move (.inl rfl) rfl) ?_
  refine VO.val rfl rfl (OpV.eql rfl rfl rfl) ?_
  refine VO.nil ?_
  show VC _ _ _ _ _
  refine VC.cond rfl (fun h0b => ?_) (fun h0b => ?_)
  · have h0 := h0b
    try simp only [decide_eq_true_eq, decide_eq_false_iff_not, Bool.not_eq_true', Bool.not_eq_false', Int.not_lt, Int.not_le] at h0
    refine VC.region ?_
    refine VO.val rfl rfl (OpV.loadK_own (i := 0) rfl hB Tryd.isAgg29 Tryd.sizeOf29 rfl rfl rfl (fun h => h)) ?_
    refine VO.val rfl rfl (OpV.loadK_own (i := 1) rfl hB Tryd.isAgg29 Tryd.sizeOf29 rfl rfl rfl (fun h => h)) ?_
    refine VO.val rfl rfl (OpV.loadK_own (i := 2) rfl hB Tryd.isAgg27 Tryd.sizeOf27 rfl rfl rfl (fun h => h)) ?_
    refine VO.op rfl (OpE.call rfl hB rfl Tryd.call10 rfl (SpecN.spec (hR1 h0)) ?_)
    rintro _ rfl
    refine VO.op rfl (OpE.store (i := 5) rfl hB rfl Tryd.sizeOf27 rfl rfl rfl rfl rfl rfl (Nat.le_of_ble_eq_true rfl) trivial ?_)
    refine VO.nil ?_
    show VC _ _ _ _ _
    refine VC.seq ?_
    refine VC.seq ?_
    refine VC.le ⟨[(3, _), (4, _), (5, _), (6, _), (7, _), (8, _), (9, _), (10, _), (11, _), (12, _), (13, _), (14, _)], [.box _ ⟨[_, _, _, _], _, _⟩, .box _ ⟨[_, _, _, _], _, _⟩, .box _ ⟨[_, _], _, _⟩, .box _ ⟨[_, _], _, _⟩, .box _ ⟨[_, _], _, _⟩, .box _ ⟨[_, _], _, _⟩, .box _ ⟨[_, _], _, _⟩], 0 + 7 + 7 + 7 + 7 + 7⟩ (Le.mk hB [0, 1, 2, 3, 4, 5, 6] ⟨rfl, rfl, rfl, rfl, rfl, rfl, rfl, rfl, rfl, rfl, rfl, rfl, trivial⟩ rfl rfl (Nat.le_refl _)) ?_
    refine VC.region ?_
    refine VO.val rfl rfl (OpV.move (.inl rfl) rfl) ?_
    refine VO.val rfl rfl (OpV.eql rfl rfl rfl) ?_
    refine VO.nil ?_
    show VC _ _ _ _ _
    refine VC.cond rfl (fun h1b => ?_) (fun h1b => ?_)
    · have h1 := h1b
      try simp only [decide_eq_true_eq, decide_eq_false_iff_not, Bool.not_eq_true', Bool.not_eq_false', Int.not_lt, Int.not_le] at h1
      refine VC.region ?_
      refine VO.val rfl rfl (OpV.loadK_own (i := 0) rfl hB Tryd.isAgg29 Tryd.sizeOf29 rfl rfl rfl (fun h => h)) ?_
      refine VO.val rfl rfl (OpV.loadK_own (i := 1) rfl hB Tryd.isAgg29 Tryd.sizeOf29 rfl rfl rfl (fun h => h)) ?_
      refine VO.op rfl (OpE.call rfl hB rfl Tryd.call11 rfl (SpecN.spec (hR2 h1)) ?_)
      rintro _ rfl
      refine VO.op rfl (OpE.store (i := 6) rfl hB rfl Tryd.sizeOf34 rfl rfl rfl rfl rfl rfl (Nat.le_of_ble_eq_true rfl) trivial ?_)
      refine VO.nil ?_
      show VC _ _ _ _ _
      refine VC.seq ?_
      refine VC.le ⟨[(3, _), (7, _), (8, _), (9, _), (10, _), (11, _), (12, _), (13, _), (14, _)], [.box _ ⟨[_, _, _, _], _, _⟩, .box _ ⟨[_, _, _, _], _, _⟩, .box _ ⟨[_, _], _, _⟩, .box _ ⟨[_, _], _, _⟩, .box _ ⟨[_, _], _, _⟩, .box _ ⟨[_, _], _, _⟩, .box _ ⟨[_, _], _, _⟩], 0 + 7 + 7 + 7 + 7 + 7⟩ (Le.mk hB [0, 1, 2, 3, 4, 5, 6] ⟨rfl, rfl, rfl, rfl, rfl, rfl, rfl, rfl, rfl, trivial⟩ rfl rfl (Nat.le_refl _)) ?_
      refine VC.region ?_
      refine VO.val rfl rfl (OpV.move (.inl rfl) rfl) ?_
      refine VO.val rfl rfl (OpV.move (.inl rfl) rfl) ?_
      refine VO.val rfl rfl (OpV.eql rfl rfl rfl) ?_
      refine VO.le _ (Le.boolT (t := 66) rfl (decide_eq_true rfl)) ?_
      refine VO.val rfl rfl (OpV.move (.inl rfl) rfl) ?_
      refine VO.opY rfl rfl rfl rfl rfl ?_
      first
        | refine OpE.val (W := NoB) (OpV.loadK_at rfl hB OutW.no Tryd.isAgg27 Tryd.sizeOf27 rfl rfl) rfl ?_
        | refine OpE.val (W := NoB) (OpV.loadK_own (i := 0) rfl hB Tryd.isAgg27 Tryd.sizeOf27 rfl rfl rfl (fun h => h)) rfl ?_
        | refine OpE.val (W := NoB) (OpV.loadK_own (i := 1) rfl hB Tryd.isAgg27 Tryd.sizeOf27 rfl rfl rfl (fun h => h)) rfl ?_
        | refine OpE.val (W := NoB) (OpV.loadK_own (i := 2) rfl hB Tryd.isAgg27 Tryd.sizeOf27 rfl rfl rfl (fun h => h)) rfl ?_
        | refine OpE.val (W := NoB) (OpV.loadK_own (i := 3) rfl hB Tryd.isAgg27 Tryd.sizeOf27 rfl rfl rfl (fun h => h)) rfl ?_
        | refine OpE.val (W := NoB) (OpV.loadK_own (i := 4) rfl hB Tryd.isAgg27 Tryd.sizeOf27 rfl rfl rfl (fun h => h)) rfl ?_
        | refine OpE.val (W := NoB) (OpV.loadK_own (i := 5) rfl hB Tryd.isAgg27 Tryd.sizeOf27 rfl rfl rfl (fun h => h)) rfl ?_
        | refine OpE.val (W := NoB) (OpV.loadK_own (i := 6) rfl hB Tryd.isAgg27 Tryd.sizeOf27 rfl rfl rfl (fun h => h)) rfl ?_
      refine VO.opY rfl rfl rfl rfl rfl ?_
      first
        | refine OpE.val (W := NoB) (OpV.loadK_at rfl hB OutW.no Tryd.isAgg27 Tryd.sizeOf27 rfl rfl) rfl ?_
        | refine OpE.val (W := NoB) (OpV.loadK_own (i := 0) rfl hB Tryd.isAgg27 Tryd.sizeOf27 rfl rfl rfl (fun h => h)) rfl ?_
        | refine OpE.val (W := NoB) (OpV.loadK_own (i := 1) rfl hB Tryd.isAgg27 Tryd.sizeOf27 rfl rfl rfl (fun h => h)) rfl ?_
        | refine OpE.val (W := NoB) (OpV.loadK_own (i := 2) rfl hB Tryd.isAgg27 Tryd.sizeOf27 rfl rfl rfl (fun h => h)) rfl ?_
        | refine OpE.val (W := NoB) (OpV.loadK_own (i := 3) rfl hB Tryd.isAgg27 Tryd.sizeOf27 rfl rfl rfl (fun h => h)) rfl ?_
        | refine OpE.val (W := NoB) (OpV.loadK_own (i := 4) rfl hB Tryd.isAgg27 Tryd.sizeOf27 rfl rfl rfl (fun h => h)) rfl ?_
        | refine OpE.val (W := NoB) (OpV.loadK_own (i := 5) rfl hB Tryd.isAgg27 Tryd.sizeOf27 rfl rfl rfl (fun h => h)) rfl ?_
        | refine OpE.val (W := NoB) (OpV.loadK_own (i := 6) rfl hB Tryd.isAgg27 Tryd.sizeOf27 rfl rfl rfl (fun h => h)) rfl ?_
      refine VO.opY rfl rfl rfl rfl rfl ?_
      refine OpE.val (W := NoB) (OpV.aeql rfl Tryd.underlying27 (by kernel_rfl) (by kernel_rfl) rfl rfl (EqFs.int Tryd.underlying3 Tryd.isAgg3 rfl (by decide) (EqFs.int Tryd.underlying3 Tryd.isAgg3 rfl (by decide) (EqFs.nil _)))) rfl ?_
      refine VO.le _ (Le.boolT (t := 70) rfl (by first | (simp; done) | (simp [hz1 h0]; done))) ?_
      refine VO.val rfl rfl (OpV.pickT rfl rfl rfl rfl rfl) ?_
      refine VO.val rfl rfl (OpV.move (.inl rfl) rfl) ?_
      refine VO.opY rfl rfl rfl rfl rfl ?_
      refine OpE.val (W := NoB) (OpV.move (.inl rfl) rfl) rfl ?_
      refine VO.opY rfl rfl rfl rfl rfl ?_
      refine OpE.val (W := NoB) (OpV.move (.inl rfl) rfl) rfl ?_
      refine VO.opY rfl rfl rfl rfl rfl ?_
      refine OpE.val (W := NoB) (OpV.eql rfl rfl rfl) rfl ?_
      refine VO.le _ (Le.boolT (t := 75) rfl (decide_eq_true rfl)) ?_
      refine VO.val rfl rfl (OpV.pickT rfl rfl rfl rfl rfl) ?_
      refine VO.val rfl rfl (OpV.move (.inl rfl) rfl) ?_
      refine VO.opY rfl rfl rfl rfl rfl ?_
      first
        | refine OpE.val (W := NoB) (OpV.loadK_at rfl hB OutW.no Tryd.isAgg34 Tryd.sizeOf34 rfl rfl) rfl ?_
        | refine OpE.val (W := NoB) (OpV.loadK_own (i := 0) rfl hB Tryd.isAgg34 Tryd.sizeOf34 rfl rfl rfl (fun h => h)) rfl ?_
        | refine OpE.val (W := NoB) (OpV.loadK_own (i := 1) rfl hB Tryd.isAgg34 Tryd.sizeOf34 rfl rfl rfl (fun h => h)) rfl ?_
        | refine OpE.val (W := NoB) (OpV.loadK_own (i := 2) rfl hB Tryd.isAgg34 Tryd.sizeOf34 rfl rfl rfl (fun h => h)) rfl ?_
        | refine OpE.val (W := NoB) (OpV.loadK_own (i := 3) rfl hB Tryd.isAgg34 Tryd.sizeOf34 rfl rfl rfl (fun h => h)) rfl ?_
        | refine OpE.val (W := NoB) (OpV.loadK_own (i := 4) rfl hB Tryd.isAgg34 Tryd.sizeOf34 rfl rfl rfl (fun h => h)) rfl ?_
        | refine OpE.val (W := NoB) (OpV.loadK_own (i := 5) rfl hB Tryd.isAgg34 Tryd.sizeOf34 rfl rfl rfl (fun h => h)) rfl ?_
        | refine OpE.val (W := NoB) (OpV.loadK_own (i := 6) rfl hB Tryd.isAgg34 Tryd.sizeOf34 rfl rfl rfl (fun h => h)) rfl ?_
      refine VO.opY rfl rfl rfl rfl rfl ?_
      first
        | refine OpE.val (W := NoB) (OpV.loadK_at rfl hB OutW.no Tryd.isAgg34 Tryd.sizeOf34 rfl rfl) rfl ?_
        | refine OpE.val (W := NoB) (OpV.loadK_own (i := 0) rfl hB Tryd.isAgg34 Tryd.sizeOf34 rfl rfl rfl (fun h => h)) rfl ?_
        | refine OpE.val (W := NoB) (OpV.loadK_own (i := 1) rfl hB Tryd.isAgg34 Tryd.sizeOf34 rfl rfl rfl (fun h => h)) rfl ?_
        | refine OpE.val (W := NoB) (OpV.loadK_own (i := 2) rfl hB Tryd.isAgg34 Tryd.sizeOf34 rfl rfl rfl (fun h => h)) rfl ?_
        | refine OpE.val (W := NoB) (OpV.loadK_own (i := 3) rfl hB Tryd.isAgg34 Tryd.sizeOf34 rfl rfl rfl (fun h => h)) rfl ?_
        | refine OpE.val (W := NoB) (OpV.loadK_own (i := 4) rfl hB Tryd.isAgg34 Tryd.sizeOf34 rfl rfl rfl (fun h => h)) rfl ?_
        | refine OpE.val (W := NoB) (OpV.loadK_own (i := 5) rfl hB Tryd.isAgg34 Tryd.sizeOf34 rfl rfl rfl (fun h => h)) rfl ?_
        | refine OpE.val (W := NoB) (OpV.loadK_own (i := 6) rfl hB Tryd.isAgg34 Tryd.sizeOf34 rfl rfl rfl (fun h => h)) rfl ?_
      refine VO.opY rfl rfl rfl rfl rfl ?_
      refine OpE.val (W := NoB) (OpV.aeql rfl Tryd.underlying34 (by kernel_rfl) (by kernel_rfl) rfl rfl (EqFs.int Tryd.underlying3 Tryd.isAgg3 rfl (by decide) (EqFs.int Tryd.underlying3 Tryd.isAgg3 rfl (by decide) (EqFs.nil _)))) rfl ?_
      refine VO.le _ (Le.boolT (t := 80) rfl (by first | (simp; done) | (simp [hz2 h1]; done))) ?_
      refine VO.val rfl rfl (OpV.pickT rfl rfl rfl rfl rfl) ?_
      refine VO.val rfl rfl (OpV.move (.inl rfl) rfl) ?_
      refine VO.opY rfl rfl rfl rfl rfl ?_
      refine OpE.call rfl hB rfl Tryd.call12 rfl (SpecN.spec (rf_paneled)) ?_
      rintro _ rfl
      refine VO.val rfl rfl (OpV.pickT rfl rfl rfl rfl rfl) ?_
      refine VO.val rfl rfl (OpV.move (.inr rfl) rfl) ?_
      refine VO.nil ?_
      show VC _ _ _ _ _
      refine VC.ret ?_
      exact And.intro rfl rfl
    · have h1 := h1b
      try simp only [decide_eq_true_eq, decide_eq_false_iff_not, Bool.not_eq_true', Bool.not_eq_false', Int.not_lt, Int.not_le] at h1
      refine VC.skip ?_
      show VC _ _ _ _ _
      refine VC.seq ?_
      refine VC.le ⟨[(3, _), (7, _), (8, _), (9, _), (10, _), (11, _), (12, _), (13, _), (14, _)], [.box _ ⟨[_, _, _, _], _, _⟩, .box _ ⟨[_, _, _, _], _, _⟩, .box _ ⟨[_, _], _, _⟩, .box _ ⟨[_, _], _, _⟩, .box _ ⟨[_, _], _, _⟩, .box _ ⟨[_, _], _, _⟩, .box _ ⟨[_, _], _, _⟩], 0 + 7 + 7 + 7 + 7 + 7⟩ (Le.mk hB [0, 1, 2, 3, 4, 5, 6] ⟨rfl, rfl, rfl, rfl, rfl, rfl, rfl, rfl, rfl, trivial⟩ rfl rfl (Nat.le_refl _)) ?_
      refine VC.region ?_
      refine VO.val rfl rfl (OpV.move (.inl rfl) rfl) ?_
      refine VO.val rfl rfl (OpV.move (.inl rfl) rfl) ?_
      refine VO.val rfl rfl (OpV.eql rfl rfl rfl) ?_
      refine VO.le _ (Le.boolT (t := 66) rfl (decide_eq_true rfl)) ?_
      refine VO.val rfl rfl (OpV.move (.inl rfl) rfl) ?_
      refine VO.opY rfl rfl rfl rfl rfl ?_
      first
        | refine OpE.val (W := NoB) (OpV.loadK_at rfl hB OutW.no Tryd.isAgg27 Tryd.sizeOf27 rfl rfl) rfl ?_
        | refine OpE.val (W := NoB) (OpV.loadK_own (i := 0) rfl hB Tryd.isAgg27 Tryd.sizeOf27 rfl rfl rfl (fun h => h)) rfl ?_
        | refine OpE.val (W := NoB) (OpV.loadK_own (i := 1) rfl hB Tryd.isAgg27 Tryd.sizeOf27 rfl rfl rfl (fun h => h)) rfl ?_
        | refine OpE.val (W := NoB) (OpV.loadK_own (i := 2) rfl hB Tryd.isAgg27 Tryd.sizeOf27 rfl rfl rfl (fun h => h)) rfl ?_
        | refine OpE.val (W := NoB) (OpV.loadK_own (i := 3) rfl hB Tryd.isAgg27 Tryd.sizeOf27 rfl rfl rfl (fun h => h)) rfl ?_
        | refine OpE.val (W := NoB) (OpV.loadK_own (i := 4) rfl hB Tryd.isAgg27 Tryd.sizeOf27 rfl rfl rfl (fun h => h)) rfl ?_
        | refine OpE.val (W := NoB) (OpV.loadK_own (i := 5) rfl hB Tryd.isAgg27 Tryd.sizeOf27 rfl rfl rfl (fun h => h)) rfl ?_
        | refine OpE.val (W := NoB) (OpV.loadK_own (i := 6) rfl hB Tryd.isAgg27 Tryd.sizeOf27 rfl rfl rfl (fun h => h)) rfl ?_
      refine VO.opY rfl rfl rfl rfl rfl ?_
      first
        | refine OpE.val (W := NoB) (OpV.loadK_at rfl hB OutW.no Tryd.isAgg27 Tryd.sizeOf27 rfl rfl) rfl ?_
        | refine OpE.val (W := NoB) (OpV.loadK_own (i := 0) rfl hB Tryd.isAgg27 Tryd.sizeOf27 rfl rfl rfl (fun h => h)) rfl ?_
        | refine OpE.val (W := NoB) (OpV.loadK_own (i := 1) rfl hB Tryd.isAgg27 Tryd.sizeOf27 rfl rfl rfl (fun h => h)) rfl ?_
        | refine OpE.val (W := NoB) (OpV.loadK_own (i := 2) rfl hB Tryd.isAgg27 Tryd.sizeOf27 rfl rfl rfl (fun h => h)) rfl ?_
        | refine OpE.val (W := NoB) (OpV.loadK_own (i := 3) rfl hB Tryd.isAgg27 Tryd.sizeOf27 rfl rfl rfl (fun h => h)) rfl ?_
        | refine OpE.val (W := NoB) (OpV.loadK_own (i := 4) rfl hB Tryd.isAgg27 Tryd.sizeOf27 rfl rfl rfl (fun h => h)) rfl ?_
        | refine OpE.val (W := NoB) (OpV.loadK_own (i := 5) rfl hB Tryd.isAgg27 Tryd.sizeOf27 rfl rfl rfl (fun h => h)) rfl ?_
        | refine OpE.val (W := NoB) (OpV.loadK_own (i := 6) rfl hB Tryd.isAgg27 Tryd.sizeOf27 rfl rfl rfl (fun h => h)) rfl ?_
      refine VO.opY rfl rfl rfl rfl rfl ?_
      refine OpE.val (W := NoB) (OpV.aeql rfl Tryd.underlying27 (by kernel_rfl) (by kernel_rfl) rfl rfl (EqFs.int Tryd.underlying3 Tryd.isAgg3 rfl (by decide) (EqFs.int Tryd.underlying3 Tryd.isAgg3 rfl (by decide) (EqFs.nil _)))) rfl ?_
      refine VO.le _ (Le.boolT (t := 70) rfl (by first | (simp; done) | (simp [hz1 h0]; done))) ?_
      refine VO.val rfl rfl (OpV.pickT rfl rfl rfl rfl rfl) ?_
      refine VO.val rfl rfl (OpV.move (.inl rfl) rfl) ?_
      refine VO.opY rfl rfl rfl rfl rfl ?_
      refine OpE.val (W := NoB) (OpV.move (.inl rfl) rfl) rfl ?_
      refine VO.opY rfl rfl rfl rfl rfl ?_
      refine OpE.val (W := NoB) (OpV.move (.inl rfl) rfl) rfl ?_
      refine VO.opY rfl rfl rfl rfl rfl ?_
      refine OpE.val (W := NoB) (OpV.eql rfl rfl rfl) rfl ?_
      refine VO.le _ (Le.boolT (t := 75) rfl (decide_eq_true rfl)) ?_
      refine VO.val rfl rfl (OpV.pickT rfl rfl rfl rfl rfl) ?_
      refine VO.val rfl rfl (OpV.move (.inl rfl) rfl) ?_
      refine VO.opY rfl rfl rfl rfl rfl ?_
      first
        | refine OpE.val (W := NoB) (OpV.loadK_at rfl hB OutW.no Tryd.isAgg34 Tryd.sizeOf34 rfl rfl) rfl ?_
        | refine OpE.val (W := NoB) (OpV.loadK_own (i := 0) rfl hB Tryd.isAgg34 Tryd.sizeOf34 rfl rfl rfl (fun h => h)) rfl ?_
        | refine OpE.val (W := NoB) (OpV.loadK_own (i := 1) rfl hB Tryd.isAgg34 Tryd.sizeOf34 rfl rfl rfl (fun h => h)) rfl ?_
        | refine OpE.val (W := NoB) (OpV.loadK_own (i := 2) rfl hB Tryd.isAgg34 Tryd.sizeOf34 rfl rfl rfl (fun h => h)) rfl ?_
        | refine OpE.val (W := NoB) (OpV.loadK_own (i := 3) rfl hB Tryd.isAgg34 Tryd.sizeOf34 rfl rfl rfl (fun h => h)) rfl ?_
        | refine OpE.val (W := NoB) (OpV.loadK_own (i := 4) rfl hB Tryd.isAgg34 Tryd.sizeOf34 rfl rfl rfl (fun h => h)) rfl ?_
        | refine OpE.val (W := NoB) (OpV.loadK_own (i := 5) rfl hB Tryd.isAgg34 Tryd.sizeOf34 rfl rfl rfl (fun h => h)) rfl ?_
        | refine OpE.val (W := NoB) (OpV.loadK_own (i := 6) rfl hB Tryd.isAgg34 Tryd.sizeOf34 rfl rfl rfl (fun h => h)) rfl ?_
      refine VO.opY rfl rfl rfl rfl rfl ?_
      first
        | refine OpE.val (W := NoB) (OpV.loadK_at rfl hB OutW.no Tryd.isAgg34 Tryd.sizeOf34 rfl rfl) rfl ?_
        | refine OpE.val (W := NoB) (OpV.loadK_own (i := 0) rfl hB Tryd.isAgg34 Tryd.sizeOf34 rfl rfl rfl (fun h => h)) rfl ?_
        | refine OpE.val (W := NoB) (OpV.loadK_own (i := 1) rfl hB Tryd.isAgg34 Tryd.sizeOf34 rfl rfl rfl (fun h => h)) rfl ?_
        | refine OpE.val (W := NoB) (OpV.loadK_own (i := 2) rfl hB Tryd.isAgg34 Tryd.sizeOf34 rfl rfl rfl (fun h => h)) rfl ?_
        | refine OpE.val (W := NoB) (OpV.loadK_own (i := 3) rfl hB Tryd.isAgg34 Tryd.sizeOf34 rfl rfl rfl (fun h => h)) rfl ?_
        | refine OpE.val (W := NoB) (OpV.loadK_own (i := 4) rfl hB Tryd.isAgg34 Tryd.sizeOf34 rfl rfl rfl (fun h => h)) rfl ?_
        | refine OpE.val (W := NoB) (OpV.loadK_own (i := 5) rfl hB Tryd.isAgg34 Tryd.sizeOf34 rfl rfl rfl (fun h => h)) rfl ?_
        | refine OpE.val (W := NoB) (OpV.loadK_own (i := 6) rfl hB Tryd.isAgg34 Tryd.sizeOf34 rfl rfl rfl (fun h => h)) rfl ?_
      refine VO.opY rfl rfl rfl rfl rfl ?_
      refine OpE.val (W := NoB) (OpV.aeql rfl Tryd.underlying34 (by kernel_rfl) (by kernel_rfl) rfl rfl (EqFs.int Tryd.underlying3 Tryd.isAgg3 rfl (by decide) (EqFs.int Tryd.underlying3 Tryd.isAgg3 rfl (by decide) (EqFs.nil _)))) rfl ?_
      refine VO.le _ (Le.boolT (t := 80) rfl (by first | (simp; done) | (simp [hz2 h1]; done))) ?_
      refine VO.val rfl rfl (OpV.pickT rfl rfl rfl rfl rfl) ?_
      refine VO.val rfl rfl (OpV.move (.inl rfl) rfl) ?_
      refine VO.opY rfl rfl rfl rfl rfl ?_
      refine OpE.call rfl hB rfl Tryd.call12 rfl (SpecN.spec (rf_paneled)) ?_
      rintro _ rfl
      refine VO.val rfl rfl (OpV.pickT rfl rfl rfl rfl rfl) ?_
      refine VO.val rfl rfl (OpV.move (.inr rfl) rfl) ?_
      refine VO.nil ?_
      show VC _ _ _ _ _
      refine VC.ret ?_
      exact And.intro rfl rfl
  · have h0 := h0b
    try simp only [decide_eq_true_eq, decide_eq_false_iff_not, Bool.not_eq_true', Bool.not_eq_false', Int.not_lt, Int.not_le] at h0
    refine VC.skip ?_
    show VC _ _ _ _ _
    refine VC.seq ?_
    refine VC.seq ?_
    refine VC.le ⟨[(3, _), (4, _), (5, _), (6, _), (7, _), (8, _), (9, _), (10, _), (11, _), (12, _), (13, _), (14, _)], [.box _ ⟨[_, _, _, _], _, _⟩, .box _ ⟨[_, _, _, _], _, _⟩, .box _ ⟨[_, _], _, _⟩, .box _ ⟨[_, _], _, _⟩, .box _ ⟨[_, _], _, _⟩, .box _ ⟨[_, _], _, _⟩, .box _ ⟨[_, _], _, _⟩], 0 + 7 + 7 + 7 + 7 + 7⟩ (Le.mk hB [0, 1, 2, 3, 4, 5, 6] ⟨rfl, rfl, rfl, rfl, rfl, rfl, rfl, rfl, rfl, rfl, rfl, rfl, trivial⟩ rfl rfl (Nat.le_refl _)) ?_
    refine VC.region ?_
    refine VO.val rfl rfl (OpV.move (.inl rfl) rfl) ?_
    refine VO.val rfl rfl (OpV.eql rfl rfl rfl) ?_
    refine VO.nil ?_
    show VC _ _ _ _ _
    refine VC.cond rfl (fun h1b => ?_) (fun h1b => ?_)
    · have h1 := h1b
      try simp only [decide_eq_true_eq, decide_eq_false_iff_not, Bool.not_eq_true', Bool.not_eq_false', Int.not_lt, Int.not_le] at h1
      refine VC.region ?_
      refine VO.val rfl rfl (OpV.loadK_own (i := 0) rfl hB Tryd.isAgg29 Tryd.sizeOf29 rfl rfl rfl (fun h => h)) ?_
      refine VO.val rfl rfl (OpV.loadK_own (i := 1) rfl hB Tryd.isAgg29 Tryd.sizeOf29 rfl rfl rfl (fun h => h)) ?_
      refine VO.op rfl (OpE.call rfl hB rfl Tryd.call11 rfl (SpecN.spec (hR2 h1)) ?_)
      rintro _ rfl
      refine VO.op rfl (OpE.store (i := 6) rfl hB rfl Tryd.sizeOf34 rfl rfl rfl rfl rfl rfl (Nat.le_of_ble_eq_true rfl) trivial ?_)
      refine VO.nil ?_
      show VC _ _ _ _ _
      refine VC.seq ?_
      refine VC.le ⟨[(3, _), (7, _), (8, _), (9, _), (10, _), (11, _), (12, _), (13, _), (14, _)], [.box _ ⟨[_, _, _, _], _, _⟩, .box _ ⟨[_, _, _, _], _, _⟩, .box _ ⟨[_, _], _, _⟩, .box _ ⟨[_, _], _, _⟩, .box _ ⟨[_, _], _, _⟩, .box _ ⟨[_, _], _, _⟩, .box _ ⟨[_, _], _, _⟩], 0 + 7 + 7 + 7 + 7 + 7⟩ (Le.mk hB [0, 1, 2, 3, 4, 5, 6] ⟨rfl, rfl, rfl, rfl, rfl, rfl, rfl, rfl, rfl, trivial⟩ rfl rfl (Nat.le_refl _)) ?_
      refine VC.region ?_
      refine VO.val rfl rfl (OpV.move (.inl rfl) rfl) ?_
      refine VO.val rfl rfl (OpV.move (.inl rfl) rfl) ?_
      refine VO.val rfl rfl (OpV.eql rfl rfl rfl) ?_
      refine VO.le _ (Le.boolT (t := 66) rfl (decide_eq_true rfl)) ?_
      refine VO.val rfl rfl (OpV.move (.inl rfl) rfl) ?_
      refine VO.opY rfl rfl rfl rfl rfl ?_
      first
        | refine OpE.val (W := NoB) (OpV.loadK_at rfl hB OutW.no Tryd.isAgg27 Tryd.sizeOf27 rfl rfl) rfl ?_
        | refine OpE.val (W := NoB) (OpV.loadK_own (i := 0) rfl hB Tryd.isAgg27 Tryd.sizeOf27 rfl rfl rfl (fun h => h)) rfl ?_
        | refine OpE.val (W := NoB) (OpV.loadK_own (i := 1) rfl hB Tryd.isAgg27 Tryd.sizeOf27 rfl rfl rfl (fun h => h)) rfl ?_
        | refine OpE.val (W := NoB) (OpV.loadK_own (i := 2) rfl hB Tryd.isAgg27 Tryd.sizeOf27 rfl rfl rfl (fun h => h)) rfl ?_
        | refine OpE.val (W := NoB) (OpV.loadK_own (i := 3) rfl hB Tryd.isAgg27 Tryd.sizeOf27 rfl rfl rfl (fun h => h)) rfl ?_
        | refine OpE.val (W := NoB) (OpV.loadK_own (i := 4) rfl hB Tryd.isAgg27 Tryd.sizeOf27 rfl rfl rfl (fun h => h)) rfl ?_
        | refine OpE.val (W := NoB) (OpV.loadK_own (i := 5) rfl hB Tryd.isAgg27 Tryd.sizeOf27 rfl rfl rfl (fun h => h)) rfl ?_
        | refine OpE.val (W := NoB) (OpV.loadK_own (i := 6) rfl hB Tryd.isAgg27 Tryd.sizeOf27 rfl rfl rfl (fun h => h)) rfl ?_
      refine VO.opY rfl rfl rfl rfl rfl ?_
      first
        | refine OpE.val (W := NoB) (OpV.loadK_at rfl hB OutW.no Tryd.isAgg27 Tryd.sizeOf27 rfl rfl) rfl ?_
        | refine OpE.val (W := NoB) (OpV.loadK_own (i := 0) rfl hB Tryd.isAgg27 Tryd.sizeOf27 rfl rfl rfl (fun h => h)) rfl ?_
        | refine OpE.val (W := NoB) (OpV.loadK_own (i := 1) rfl hB Tryd.isAgg27 Tryd.sizeOf27 rfl rfl rfl (fun h => h)) rfl ?_
        | refine OpE.val (W := NoB) (OpV.loadK_own (i := 2) rfl hB Tryd.isAgg27 Tryd.sizeOf27 rfl rfl rfl (fun h => h)) rfl ?_
        | refine OpE.val (W := NoB) (OpV.loadK_own (i := 3) rfl hB Tryd.isAgg27 Tryd.sizeOf27 rfl rfl rfl (fun h => h)) rfl ?_
        | refine OpE.val (W := NoB) (OpV.loadK_own (i := 4) rfl hB Tryd.isAgg27 Tryd.sizeOf27 rfl rfl rfl (fun h => h)) rfl ?_
        | refine OpE.val (W := NoB) (OpV.loadK_own (i := 5) rfl hB Tryd.isAgg27 Tryd.sizeOf27 rfl rfl rfl (fun h => h)) rfl ?_
        | refine OpE.val (W := NoB) (OpV.loadK_own (i := 6) rfl hB Tryd.isAgg27 Tryd.sizeOf27 rfl rfl rfl (fun h => h)) rfl ?_
      refine VO.opY rfl rfl rfl rfl rfl ?_
      refine OpE.val (W := NoB) (OpV.aeql rfl Tryd.underlying27 (by kernel_rfl) (by kernel_rfl) rfl rfl (EqFs.int Tryd.underlying3 Tryd.isAgg3 rfl (by decide) (EqFs.int Tryd.underlying3 Tryd.isAgg3 rfl (by decide) (EqFs.nil _)))) rfl ?_
      refine VO.le _ (Le.boolT (t := 70) rfl (by first | (simp; done) | (simp [hz1 h0]; done))) ?_
      refine VO.val rfl rfl (OpV.pickT rfl rfl rfl rfl rfl) ?_
      refine VO.val rfl rfl (OpV.move (.inl rfl) rfl) ?_
      refine VO.opY rfl rfl rfl rfl rfl ?_
      refine OpE.val (W := NoB) (OpV.move (.inl rfl) rfl) rfl ?_
      refine VO.opY rfl rfl rfl rfl rfl ?_
      refine OpE.val (W := NoB) (OpV.move (.inl rfl) rfl) rfl ?_
      refine VO.opY rfl rfl rfl rfl rfl ?_
      refine OpE.val (W := NoB) (OpV.eql rfl rfl rfl) rfl ?_
      refine VO.le _ (Le.boolT (t := 75) rfl (decide_eq_true rfl)) ?_
      refine VO.val rfl rfl (OpV.pickT rfl rfl rfl rfl rfl) ?_
      refine VO.val rfl rfl (OpV.move (.inl rfl) rfl) ?_
      refine VO.opY rfl rfl rfl rfl rfl ?_
      first
        | refine OpE.val (W := NoB) (OpV.loadK_at rfl hB OutW.no Tryd.isAgg34 Tryd.sizeOf34 rfl rfl) rfl ?_
        | refine OpE.val (W := NoB) (OpV.loadK_own (i := 0) rfl hB Tryd.isAgg34 Tryd.sizeOf34 rfl rfl rfl (fun h => h)) rfl ?_
        | refine OpE.val (W := NoB) (OpV.loadK_own (i := 1) rfl hB Tryd.isAgg34 Tryd.sizeOf34 rfl rfl rfl (fun h => h)) rfl ?_
        | refine OpE.val (W := NoB) (OpV.loadK_own (i := 2) rfl hB Tryd.isAgg34 Tryd.sizeOf34 rfl rfl rfl (fun h => h)) rfl ?_
        | refine OpE.val (W := NoB) (OpV.loadK_own (i := 3) rfl hB Tryd.isAgg34 Tryd.sizeOf34 rfl rfl rfl (fun h => h)) rfl ?_
        | refine OpE.val (W := NoB) (OpV.loadK_own (i := 4) rfl hB Tryd.isAgg34 Tryd.sizeOf34 rfl rfl rfl (fun h => h)) rfl ?_
        | refine OpE.val (W := NoB) (OpV.loadK_own (i := 5) rfl hB Tryd.isAgg34 Tryd.sizeOf34 rfl rfl rfl (fun h => h)) rfl ?_
        | refine OpE.val (W := NoB) (OpV.loadK_own (i := 6) rfl hB Tryd.isAgg34 Tryd.sizeOf34 rfl rfl rfl (fun h => h)) rfl ?_
      refine VO.opY rfl rfl rfl rfl rfl ?_
      first
        | refine OpE.val (W := NoB) (OpV.loadK_at rfl hB OutW.no Tryd.isAgg34 Tryd.sizeOf34 rfl rfl) rfl ?_
        | refine OpE.val (W := NoB) (OpV.loadK_own (i := 0) rfl hB Tryd.isAgg34 Tryd.sizeOf34 rfl rfl rfl (fun h => h)) rfl ?_
        | refine OpE.val (W := NoB) (OpV.loadK_own (i := 1) rfl hB Tryd.isAgg34 Tryd.sizeOf34 rfl rfl rfl (fun h => h)) rfl ?_
        | refine OpE.val (W := NoB) (OpV.loadK_own (i := 2) rfl hB Tryd.isAgg34 Tryd.sizeOf34 rfl rfl rfl (fun h => h)) rfl ?_
        | refine OpE.val (W := NoB) (OpV.loadK_own (i := 3) rfl hB Tryd.isAgg34 Tryd.sizeOf34 rfl rfl rfl (fun h => h)) rfl ?_
        | refine OpE.val (W := NoB) (OpV.loadK_own (i := 4) rfl hB Tryd.isAgg34 Tryd.sizeOf34 rfl rfl rfl (fun h => h)) rfl ?_
        | refine OpE.val (W := NoB) (OpV.loadK_own (i := 5) rfl hB Tryd.isAgg34 Tryd.sizeOf34 rfl rfl rfl (fun h => h)) rfl ?_
        | refine OpE.val (W := NoB) (OpV.loadK_own (i := 6) rfl hB Tryd.isAgg34 Tryd.sizeOf34 rfl rfl rfl (fun h => h)) rfl ?_
      refine VO.opY rfl rfl rfl rfl rfl ?_
      refine OpE.val (W := NoB) (OpV.aeql rfl Tryd.underlying34 (by kernel_rfl) (by kernel_rfl) rfl rfl (EqFs.int Tryd.underlying3 Tryd.isAgg3 rfl (by decide) (EqFs.int Tryd.underlying3 Tryd.isAgg3 rfl (by decide) (EqFs.nil _)))) rfl ?_
      refine VO.le _ (Le.boolT (t := 80) rfl (by first | (simp; done) | (simp [hz2 h1]; done))) ?_
      refine VO.val rfl rfl (OpV.pickT rfl rfl rfl rfl rfl) ?_
      refine VO.val rfl rfl (OpV.move (.inl rfl) rfl) ?_
      refine VO.opY rfl rfl rfl rfl rfl ?_
      refine OpE.call rfl hB rfl Tryd.call12 rfl (SpecN.spec (rf_paneled)) ?_
      rintro _ rfl
      refine VO.val rfl rfl (OpV.pickT rfl rfl rfl rfl rfl) ?_
      refine VO.val rfl rfl (OpV.move (.inr rfl) rfl) ?_
      refine VO.nil ?_
      show VC _ _ _ _ _
      refine VC.ret ?_
      exact And.intro rfl rfl
    · have h1 := h1b
      try simp only [decide_eq_true_eq, decide_eq_false_iff_not, Bool.not_eq_true', Bool.not_eq_false', Int.not_lt, Int.not_le] at h1
      refine VC.skip ?_
      show VC _ _ _ _ _
      refine VC.seq ?_
      refine VC.le ⟨[(3, _), (7, _), (8, _), (9, _), (10, _), (11, _), (12, _), (13, _), (14, _)], [.box _ ⟨[_, _, _, _], _, _⟩, .box _ ⟨[_, _, _, _], _, _⟩, .box _ ⟨[_, _], _, _⟩, .box _ ⟨[_, _], _, _⟩, .box _ ⟨[_, _], _, _⟩, .box _ ⟨[_, _], _, _⟩, .box _ ⟨[_, _], _, _⟩], 0 + 7 + 7 + 7 + 7 + 7⟩ (Le.mk hB [0, 1, 2, 3, 4, 5, 6] ⟨rfl, rfl, rfl, rfl, rfl, rfl, rfl, rfl, rfl, trivial⟩ rfl rfl (Nat.le_refl _)) ?_
      refine VC.region ?_
      refine VO.val rfl rfl (OpV.move (.inl rfl) rfl) ?_
      refine VO.val rfl rfl (OpV.move (.inl rfl) rfl) ?_
      refine VO.val rfl rfl (OpV.eql rfl rfl rfl) ?_
      refine VO.le _ (Le.boolT (t := 66) rfl (decide_eq_true rfl)) ?_
      refine VO.val rfl rfl (OpV.move (.inl rfl) rfl) ?_
      refine VO.opY rfl rfl rfl rfl rfl ?_
      first
        | refine OpE.val (W := NoB) (OpV.loadK_at rfl hB OutW.no Tryd.isAgg27 Tryd.sizeOf27 rfl rfl) rfl ?_
        | refine OpE.val (W := NoB) (OpV.loadK_own (i := 0) rfl hB Tryd.isAgg27 Tryd.sizeOf27 rfl rfl rfl (fun h => h)) rfl ?_
        | refine OpE.val (W := NoB) (OpV.loadK_own (i := 1) rfl hB Tryd.isAgg27 Tryd.sizeOf27 rfl rfl rfl (fun h => h)) rfl ?_
        | refine OpE.val (W := NoB) (OpV.loadK_own (i := 2) rfl hB Tryd.isAgg27 Tryd.sizeOf27 rfl rfl rfl (fun h => h)) rfl ?_
        | refine OpE.val (W := NoB) (OpV.loadK_own (i := 3) rfl hB Tryd.isAgg27 Tryd.sizeOf27 rfl rfl rfl (fun h => h)) rfl ?_
        | refine OpE.val (W := NoB) (OpV.loadK_own (i := 4) rfl hB Tryd.isAgg27 Tryd.sizeOf27 rfl rfl rfl (fun h => h)) rfl ?_
        | refine OpE.val (W := NoB) (OpV.loadK_own (i := 5) rfl hB Tryd.isAgg27 Tryd.sizeOf27 rfl rfl rfl (fun h => h)) rfl ?_
        | refine OpE.val (W := NoB) (OpV.loadK_own (i := 6) rfl hB Tryd.isAgg27 Tryd.sizeOf27 rfl rfl rfl (fun h => h)) rfl ?_
      refine VO.opY rfl rfl rfl rfl rfl ?_
      first
        | refine OpE.val (W := NoB) (OpV.loadK_at rfl hB OutW.no Tryd.isAgg27 Tryd.sizeOf27 rfl rfl) rfl ?_
        | refine OpE.val (W := NoB) (OpV.loadK_own (i := 0) rfl hB Tryd.isAgg27 Tryd.sizeOf27 rfl rfl rfl (fun h => h)) rfl ?_
        | refine OpE.val (W := NoB) (OpV.loadK_own (i := 1) rfl hB Tryd.isAgg27 Tryd.sizeOf27 rfl rfl rfl (fun h => h)) rfl ?_
        | refine OpE.val (W := NoB) (OpV.loadK_own (i := 2) rfl hB Tryd.isAgg27 Tryd.sizeOf27 rfl rfl rfl (fun h => h)) rfl ?_
        | refine OpE.val (W := NoB) (OpV.loadK_own (i := 3) rfl hB Tryd.isAgg27 Tryd.sizeOf27 rfl rfl rfl (fun h => h)) rfl ?_
        | refine OpE.val (W := NoB) (OpV.loadK_own (i := 4) rfl hB Tryd.isAgg27 Tryd.sizeOf27 rfl rfl rfl (fun h => h)) rfl ?_
        | refine OpE.val (W := NoB) (OpV.loadK_own (i := 5) rfl hB Tryd.isAgg27 Tryd.sizeOf27 rfl rfl rfl (fun h => h)) rfl ?_
        | refine OpE.val (W := NoB) (OpV.loadK_own (i := 6) rfl hB Tryd.isAgg27 Tryd.sizeOf27 rfl rfl rfl (fun h => h)) rfl ?_
      refine VO.opY rfl rfl rfl rfl rfl ?_
      refine OpE.val (W := NoB) (OpV.aeql rfl Tryd.underlying27 (by kernel_rfl) (by kernel_rfl) rfl rfl (EqFs.int Tryd.underlying3 Tryd.isAgg3 rfl (by decide) (EqFs.int Tryd.underlying3 Tryd.isAgg3 rfl (by decide) (EqFs.nil _)))) rfl ?_
      refine VO.le _ (Le.boolT (t := 70) rfl (by first | (simp; done) | (simp [hz1 h0]; done))) ?_
      refine VO.val rfl rfl (OpV.pickT rfl rfl rfl rfl rfl) ?_
      refine VO.val rfl rfl (OpV.move (.inl rfl) rfl) ?_
      refine VO.opY rfl rfl rfl rfl rfl ?_
      refine OpE.val (W := NoB) (OpV.move (.inl rfl) rfl) rfl ?_
      refine VO.opY rfl rfl rfl rfl rfl ?_
      refine OpE.val (W := NoB) (OpV.move (.inl rfl) rfl) rfl ?_
      refine VO.opY rfl rfl rfl rfl rfl ?_
      refine OpE.val (W := NoB) (OpV.eql rfl rfl rfl) rfl ?_
      refine VO.le _ (Le.boolT (t := 75) rfl (decide_eq_true rfl)) ?_
      refine VO.val rfl rfl (OpV.pickT rfl rfl rfl rfl rfl) ?_
      refine VO.val rfl rfl (OpV.move (.inl rfl) rfl) ?_
      refine VO.opY rfl rfl rfl rfl rfl ?_
      first
        | refine OpE.val (W := NoB) (OpV.loadK_at rfl hB OutW.no Tryd.isAgg34 Tryd.sizeOf34 rfl rfl) rfl ?_
        | refine OpE.val (W := NoB) (OpV.loadK_own (i := 0) rfl hB Tryd.isAgg34 Tryd.sizeOf34 rfl rfl rfl (fun h => h)) rfl ?_
        | refine OpE.val (W := NoB) (OpV.loadK_own (i := 1) rfl hB Tryd.isAgg34 Tryd.sizeOf34 rfl rfl rfl (fun h => h)) rfl ?_
        | refine OpE.val (W := NoB) (OpV.loadK_own (i := 2) rfl hB Tryd.isAgg34 Tryd.sizeOf34 rfl rfl rfl (fun h => h)) rfl ?_
        | refine OpE.val (W := NoB) (OpV.loadK_own (i := 3) rfl hB Tryd.isAgg34 Tryd.sizeOf34 rfl rfl rfl (fun h => h)) rfl ?_
        | refine OpE.val (W := NoB) (OpV.loadK_own (i := 4) rfl hB Tryd.isAgg34 Tryd.sizeOf34 rfl rfl rfl (fun h => h)) rfl ?_
        | refine OpE.val (W := NoB) (OpV.loadK_own (i := 5) rfl hB Tryd.isAgg34 Tryd.sizeOf34 rfl rfl rfl (fun h => h)) rfl ?_
        | refine OpE.val (W := NoB) (OpV.loadK_own (i := 6) rfl hB Tryd.isAgg34 Tryd.sizeOf34 rfl rfl rfl (fun h => h)) rfl ?_
      refine VO.opY rfl rfl rfl rfl rfl ?_
      first
        | refine OpE.val (W := NoB) (OpV.loadK_at rfl hB OutW.no Tryd.isAgg34 Tryd.sizeOf34 rfl rfl) rfl ?_
        | refine OpE.val (W := NoB) (OpV.loadK_own (i := 0) rfl hB Tryd.isAgg34 Tryd.sizeOf34 rfl rfl rfl (fun h => h)) rfl ?_
        | refine OpE.val (W := NoB) (OpV.loadK_own (i := 1) rfl hB Tryd.isAgg34 Tryd.sizeOf34 rfl rfl rfl (fun h => h)) rfl ?_
        | refine OpE.val (W := NoB) (OpV.loadK_own (i := 2) rfl hB Tryd.isAgg34 Tryd.sizeOf34 rfl rfl rfl (fun h => h)) rfl ?_
        | refine OpE.val (W := NoB) (OpV.loadK_own (i := 3) rfl hB Tryd.isAgg34 Tryd.sizeOf34 rfl rfl rfl (fun h => h)) rfl ?_
        | refine OpE.val (W := NoB) (OpV.loadK_own (i := 4) rfl hB Tryd.isAgg34 Tryd.sizeOf34 rfl rfl rfl (fun h => h)) rfl ?_
        | refine OpE.val (W := NoB) (OpV.loadK_own (i := 5) rfl hB Tryd.isAgg34 Tryd.sizeOf34 rfl rfl rfl (fun h => h)) rfl ?_
        | refine OpE.val (W := NoB) (OpV.loadK_own (i := 6) rfl hB Tryd.isAgg34 Tryd.sizeOf34 rfl rfl rfl (fun h => h)) rfl ?_
      refine VO.opY rfl rfl rfl rfl rfl ?_
      refine OpE.val (W := NoB) (OpV.aeql rfl Tryd.underlying34 (by kernel_rfl) (by kernel_rfl) rfl rfl (EqFs.int Tryd.underlying3 Tryd.isAgg3 rfl (by decide) (EqFs.int Tryd.underlying3 Tryd.isAgg3 rfl (by decide) (EqFs.nil _)))) rfl ?_
      refine VO.le _ (Le.boolT (t := 80) rfl (by first | (simp; done) | (simp [hz2 h1]; done))) ?_
      refine VO.val rfl rfl (OpV.pickT rfl rfl rfl rfl rfl) ?_
      refine VO.val rfl rfl (OpV.move (.inl rfl) rfl) ?_
      refine VO.opY rfl rfl rfl rfl rfl ?_
      refine OpE.call rfl hB rfl Tryd.call12 rfl (SpecN.spec (rf_paneled)) ?_
      rintro _ rfl
      refine VO.val rfl rfl (OpV.pickT rfl rfl rfl rfl rfl) ?_
      refine VO.val rfl rfl (OpV.move (.inr rfl) rfl) ?_
      refine VO.nil ?_
      show VC _ _ _ _ _
      refine VC.ret ?_
      exact And.intro rfl rfl
end Go.Proofs.YtgikefjbdhnffaaDoor
