/- Part 3 of a proof: the walks and laws that it needs. -/
import Derived.Laws.IdiomRangeMap
import Derived.Sort.Walk0
import Derived.Test.YtaaokimiadfidaaGreatDoorZX2
namespace Go.Proofs.YtaaokimiadfidaaGreatDoor
open Go.RowKit
set_option linter.unusedVariables false
set_option linter.unusedSimpArgs false
set_option maxRecDepth 100000 in
theorem line_can {m : Mach} {v : ByteArray} (hl : m.can.length ≤ 1000000000) (hs : SortS m.can) :
  SpecN Tryz.prog 179 [avT m, avS v] (fun y => y = avB (hasK m v)) := by
 refine SpecN.of_VCN Tryz.func179 rfl Tryz.ntmps179 (Nle rfl) fun w A hB => ?_
 have hnew : True := trivial
 refine VC.sr ?_
 refine VO.op rfl (OpE.box rfl hB rfl rfl rfl ?_)
 intro g2
 refine VO.ma rfl rfl rfl rfl ?_
 refine VO.nil ?_
 refine VC.sr ?_
 refine VO.val rfl rfl (OpV.fieldAddrO 4 rfl Tryz.underlying128 rfl rfl Tryz.sizeOf67 rfl) ?_
 refine VO.val rfl rfl (OpV.load_own (i := 0) rfl hB Tryz.isAgg67 rfl rfl rfl (fun h => h)) ?_
 refine VO.mv rfl rfl rfl rfl ?_
 refine VO.op rfl (OpE.call rfl hB rfl Tryz.call280 rfl (slices_BinarySearch_str hl hs) ?_)
 rintro _ ⟨n11, rfl⟩
 refine VO.mv rfl rfl rfl rfl ?_
 refine VO.val rfl rfl (OpV.extract rfl rfl rfl) ?_
 refine VO.val rfl rfl (OpV.extract rfl rfl rfl) ?_
 refine VO.ma rfl rfl rfl rfl ?_
 refine VO.ma rfl rfl rfl rfl ?_
 refine VO.nil ?_
 refine VC.sr ?_
 refine VO.mv rfl rfl rfl rfl ?_
 refine VO.ma rfl rfl rfl rfl ?_
 refine VO.nil ?_
 refine VC.ret ?_
 exact Exists.intro _ (And.intro (RetN.one Tryz.results179 (ResN.v rfl)) (rfl))
set_option maxRecDepth 100000 in
theorem line_planFault {ms : List Mach} {ns : List NeedS} {plan : List Int} (hm : machF ms = 0) (hn : ns.length ≤ 1000000000) (hp : plan.length ≤ 1000000000) :
  SpecN Tryz.prog 193 [avL ms, avL ns, avInts plan] (fun y => y = avI (planF ms ns plan)) := by
 have hlen := machF_len hm
 have hfe := fun k (hk : k < ms.length) => (machF_each hm hk).1.2.2.1
 refine SpecN.of_VCN Tryz.func193 rfl Tryz.ntmps193 (Nle rfl) fun w A hB => ?_
 have hnew : True := trivial
 refine VC.sr ?_
 refine VO.ma rfl rfl rfl rfl ?_
 refine VO.nil ?_
 refine VC.seq ?_
 refine VC.sr ?_
 refine VO.mv rfl rfl rfl rfl ?_
 refine VO.val rfl rfl (OpV.len_im rfl Tryz.underlying22 rfl) ?_
 refine VO.mv rfl rfl rfl rfl ?_
 refine VO.val rfl rfl (OpV.len_im rfl Tryz.underlying77 rfl) ?_
 refine VO.val rfl rfl (OpV.neq rfl rfl rfl) ?_
 refine VO.nil ?_
 refine VC.cond rfl (fun aH1b => ?_) (fun aH1b => ?_)
 ·have aH1 := aH1b
  try simp only [qqT, qqF, qqN, qqM, qqL, qqE] at aH1
  refine VC.sr ?_
  refine VO.ma rfl rfl rfl rfl ?_
  refine VO.nil ?_
  refine VC.ret ?_
  exact Exists.intro _ (And.intro (RetN.one Tryz.results193 (ResN.v rfl)) (by rw [planF_3 (by omega)]))
 ·have aH1 := aH1b
  try simp only [qqT, qqF, qqN, qqM, qqL, qqE] at aH1
  refine VC.skip ?_
  refine VC.seq ?_
  refine VC.sr ?_
  refine VO.mv rfl rfl rfl rfl ?_
  refine VO.val rfl rfl (OpV.len_im rfl Tryz.underlying22 rfl) ?_
  refine VO.mv rfl rfl rfl rfl ?_
  refine VO.nil ?_
  refine VC.block ?_
  refine VC.loopK [] trivial ({q : Nat // q ≤ plan.length ∧ ∀ j, j < q → planE ms ns plan j = 0}) (fun (iZ : {q : Nat // q ≤ plan.length ∧ ∀ j, j < q → planE ms ns plan j = 0}) => match iZ with | ⟨q, hq, he⟩ => [(0, avL ms), (1, avL ns), (2, avInts plan), (17, avInts plan), (18, avI plan.length), (19, avI (q : Int))]) (fun (iZ : {q : Nat // q ≤ plan.length ∧ ∀ j, j < q → planE ms ns plan j = 0}) => match iZ with | ⟨q, hq, he⟩ => []) (fun (iZ : {q : Nat // q ≤ plan.length ∧ ∀ j, j < q → planE ms ns plan j = 0}) => match iZ with | ⟨q, hq, he⟩ => 0) (fun (iZ : {q : Nat // q ≤ plan.length ∧ ∀ j, j < q → planE ms ns plan j = 0}) => match iZ with | ⟨q, hq, he⟩ => plan.length - q) ⟨0, Nat.zero_le _, fun j hj => absurd hj (Nat.not_lt_zero j)⟩ (Le.mk hB [] ⟨rfl, rfl, rfl, rfl, rfl, rfl, trivial⟩ rfl rfl (Nat.le_refl _)) ?_
  rintro ⟨q, hq, he⟩
  show VC _ _ _ _ ⟨[(0, avL ms), (1, avL ns), (2, avInts plan), (17, avInts plan), (18, avI plan.length), (19, avI (q : Int))] ++ [], [], 0⟩
  refine VC.sr ?_
  refine VO.val rfl rfl (OpV.lss rfl rfl rfl) ?_
  refine VO.nil ?_
  refine VC.seq ?_
  refine VC.cond rfl (fun aH2b => ?_) (fun aH2b => ?_)
  ·have aH2 := aH2b
   try simp only [qqT, qqF, qqN, qqM, qqL, qqE] at aH2
   refine VC.skip ?_
   refine VC.seq ?_
   refine VC.block ?_
   refine VC.sr ?_
   refine VO.mv rfl rfl rfl rfl ?_
   refine VO.val rfl rfl (OpV.indexAddr_1 rfl Tryz.underlying22 Tryz.sizeOf3 rfl rfl rfl (by omega)) ?_
   refine VO.val rfl rfl (OpV.load_at rfl hB OutW.no Tryz.isAgg3 rfl rfl) ?_
   refine VO.ma rfl rfl rfl rfl ?_
   refine VO.ma rfl rfl rfl rfl ?_
   refine VO.nil ?_
   refine VC.seq ?_
   refine VC.sr ?_
   refine VO.mv rfl rfl rfl rfl ?_
   refine VO.val rfl rfl (OpV.lss rfl rfl rfl) ?_
   refine VO.mv rfl rfl rfl rfl ?_
   refine VO.opG rfl rfl rfl rfl (fun aK3b => ?_) (fun aK3b => ?_)
   ·replace aK3b : _ = false := aK3b
    have aK3 := aK3b
    try simp only [qqT, qqF, qqN, qqM, qqL, qqE] at aK3
    refine OpE.val (W := NoB) (OpV.move (.inl rfl) rfl) rfl ?_
    refine VO.opY rfl rfl rfl rfl aK3b ?_
    refine OpE.val (W := NoB) (OpV.move (.inl rfl) rfl) rfl ?_
    refine VO.opY rfl rfl rfl rfl aK3b ?_
    refine OpE.val (W := NoB) (OpV.len_im rfl Tryz.underlying102 rfl) rfl ?_
    refine VO.opY rfl rfl rfl rfl aK3b ?_
    refine OpE.val (W := NoB) (OpV.geq rfl rfl rfl) rfl ?_
    refine VO.val rfl rfl (OpV.pickF rfl rfl rfl rfl aK3b) ?_
    refine VO.nil ?_
    refine VC.cond rfl (fun h8b => ?_) (fun h8b => ?_)
    ·have h8 := h8b
     try simp only [qqT, qqF, qqN, qqM, qqL, qqE] at h8
     refine VC.sr ?_
     refine VO.ma rfl rfl rfl rfl ?_
     refine VO.nil ?_
     refine VC.ret ?_
     exact Exists.intro _ (And.intro (RetN.one Tryz.results193 (ResN.v rfl)) (by rw [planF_at (by omega) (by omega) he (planE_8 (by omega)) (by decide)]))
    ·have h8 := h8b
     try simp only [qqT, qqF, qqN, qqM, qqL, qqE] at h8
     refine VC.skip ?_
     refine VC.seq ?_
     refine VC.draw (fun _ => NoB) hB (by kernel_rfl) ?_
     refine VA.take (i := 0) rfl (by kernel_rfl) (by kernel_rfl) (by kernel_rfl) rfl rfl (OpV.move (.inl rfl) rfl) ?_
     refine VA.take (i := 1) rfl (by kernel_rfl) (by kernel_rfl) (by kernel_rfl) rfl rfl (OpV.move (.inl rfl) rfl) ?_
     refine VA.take (i := 2) rfl (by kernel_rfl) (by kernel_rfl) (by kernel_rfl) rfl rfl (OpV.indexAddr_E rfl Tryz.underlying102 Tryz.sizeOf128 rfl rfl (Int.toNat_of_nonneg (by omega)).symm (by omega)) ?_
     refine VA.take (i := 3) rfl (by kernel_rfl) (by kernel_rfl) (by kernel_rfl) rfl rfl (OpV.loadK_at rfl hB OutW.wi0 Tryz.isAgg128 Tryz.sizeOf128 rfl rfl) ?_
     refine VA.take (i := 4) rfl (by kernel_rfl) (by kernel_rfl) (by kernel_rfl) rfl rfl (OpV.move (.inl rfl) rfl) ?_
     refine VA.take (i := 5) rfl (by kernel_rfl) (by kernel_rfl) (by kernel_rfl) rfl rfl (OpV.move (.inl rfl) rfl) ?_
     refine VA.take (i := 6) rfl (by kernel_rfl) (by kernel_rfl) (by kernel_rfl) rfl rfl (OpV.indexAddr_E rfl Tryz.underlying77 Tryz.sizeOf96 rfl rfl rfl (by omega)) ?_
     refine VA.take (i := 7) rfl (by kernel_rfl) (by kernel_rfl) (by kernel_rfl) rfl rfl (OpV.fieldAddr_atO 0 rfl Tryz.underlying96 rfl rfl Tryz.sizeOf9 rfl rfl) ?_
     refine VA.take (i := 8) rfl (by kernel_rfl) (by kernel_rfl) (by kernel_rfl) rfl rfl (OpV.load_at rfl hB OutW.wi0 Tryz.isAgg9 rfl rfl) ?_
     refine VA.all (rs := [9]) (by kernel_rfl) (by decide) ?_
     refine ⟨⟨_, rfl, .inl rfl, ?_⟩, trivial⟩
     refine OpE.call rfl hB rfl Tryz.call179 rfl (SpecN.spec (line_can (by have := canF_keys (machF_each hm (i := (plan.getD q 0).toNat) (by omega)).2; omega) (canF_sort (machF_each hm (by omega)).2))) ?_
     rintro _ rfl
     refine VA.take (i := 10) rfl (by kernel_rfl) (by kernel_rfl) (by kernel_rfl) rfl rfl (OpV.not rfl rfl) ?_
     refine VA.done (by kernel_rfl) ?_
     refine VC.cond rfl (fun h4b => ?_) (fun h4b => ?_)
     ·have h4 := h4b
      try simp only [qqT, qqF, qqN, qqM, qqL, qqE] at h4
      refine VC.sr ?_
      refine VO.ma rfl rfl rfl rfl ?_
      refine VO.nil ?_
      refine VC.ret ?_
      exact Exists.intro _ (And.intro (RetN.one Tryz.results193 (ResN.v rfl)) (by rw [planF_at (by omega) (by omega) he (planE_4 (by omega) h4) (by decide)]))
     ·have h4 := h4b
      try simp only [qqT, qqF, qqN, qqM, qqL, qqE] at h4
      refine VC.skip ?_
      refine VC.region ?_
      refine VO.val rfl rfl (OpV.add rfl rfl rfl (by unfold fits; omega)) ?_
      refine VO.mv rfl rfl rfl rfl ?_
      refine VO.nil ?_
      exact Exists.intro (⟨q + 1, by omega, lt_succ_cases he (planE_0 (by omega) h4)⟩) (And.intro (Le.mk hB [] ⟨rfl, rfl, rfl, rfl, rfl, rfl, trivial⟩ rfl rfl (Nat.le_refl _)) (by first | omega | (show _ < _; omega) | (simp only []; omega)))
   ·replace aK3b : _ = true := aK3b
    have aK3 := aK3b
    try simp only [qqT, qqF, qqN, qqM, qqL, qqE] at aK3
    refine VO.opX rfl rfl rfl rfl aK3b ?_
    refine VO.opX rfl rfl rfl rfl aK3b ?_
    refine VO.opX rfl rfl rfl rfl aK3b ?_
    refine VO.val rfl rfl (OpV.pickT rfl rfl rfl rfl aK3b) ?_
    refine VO.nil ?_
    refine VC.condT rfl rfl ?_
    refine VC.sr ?_
    refine VO.ma rfl rfl rfl rfl ?_
    refine VO.nil ?_
    refine VC.ret ?_
    exact Exists.intro _ (And.intro (RetN.one Tryz.results193 (ResN.v rfl)) (by rw [planF_at (by omega) (by omega) he (planE_8 (by omega)) (by decide)]))
  ·have aH2 := aH2b
   try simp only [qqT, qqF, qqN, qqM, qqL, qqE] at aH2
   refine VC.exit ?_
   refine VC.sr ?_
   refine VO.mv rfl rfl rfl rfl ?_
   refine VO.val rfl rfl (OpV.len_im rfl Tryz.underlying102 rfl) ?_
   refine VO.op rfl (OpE.make rfl hB rfl Tryz.underlying22 (infoOf Tryz.t3 1 (by kernel_rfl) rfl rfl) (by decide) rfl rfl (n := ms.length) rfl rfl (by omega) (made_ints _) ?_)
   intro g46
   refine VO.ma rfl rfl rfl rfl ?_
   refine VO.nil ?_
   refine VC.seq ?_
   refine VC.sr ?_
   refine VO.mv rfl rfl rfl rfl ?_
   refine VO.val rfl rfl (OpV.len_im rfl Tryz.underlying22 rfl) ?_
   refine VO.mv rfl rfl rfl rfl ?_
   refine VO.nil ?_
   refine VC.block ?_
   refine VC.loopK [] trivial ({r : Nat // r ≤ plan.length ∧ ∀ k, k < ms.length → cnt plan k r ≤ (ms.getD k default).feeders}) (fun (iZ : {r : Nat // r ≤ plan.length ∧ ∀ k, k < ms.length → cnt plan k r ≤ (ms.getD k default).feeders}) => match iZ with | ⟨r, hr, hc⟩ => [(0, avL ms), (9, .v (.slice (some ⟨g46, 0, none⟩) ms.length ms.length)), (47, avInts plan), (48, avI plan.length), (49, avI (r : Int))]) (fun (iZ : {r : Nat // r ≤ plan.length ∧ ∀ k, k < ms.length → cnt plan k r ≤ (ms.getD k default).feeders}) => match iZ with | ⟨r, hr, hc⟩ => [.box g46 ⟨intsL (tabI ms.length (fun k => cnt plan k r)), 3, (intsL (List.replicate ms.length 0)).length⟩]) (fun (iZ : {r : Nat // r ≤ plan.length ∧ ∀ k, k < ms.length → cnt plan k r ≤ (ms.getD k default).feeders}) => match iZ with | ⟨r, hr, hc⟩ => 0) (fun (iZ : {r : Nat // r ≤ plan.length ∧ ∀ k, k < ms.length → cnt plan k r ≤ (ms.getD k default).feeders}) => match iZ with | ⟨r, hr, hc⟩ => plan.length - r) ⟨0, Nat.zero_le _, hfe⟩ (Le.mk hB [0] ⟨rfl, rfl, rfl, rfl, rfl, trivial⟩ rfl (by rw [tabI_rep]; rfl) (Nat.le_refl _)) ?_
   rintro ⟨r, hr, hc⟩
   show VC _ _ _ _ ⟨[(0, avL ms), (9, .v (.slice (some ⟨g46, 0, none⟩) ms.length ms.length)), (47, avInts plan), (48, avI plan.length), (49, avI (r : Int))] ++ [], [.box g46 ⟨intsL (tabI ms.length (fun k => cnt plan k r)), 3, (intsL (List.replicate ms.length 0)).length⟩], 0⟩
   refine VC.sr ?_
   refine VO.val rfl rfl (OpV.lss rfl rfl rfl) ?_
   refine VO.nil ?_
   refine VC.seq ?_
   refine VC.cond rfl (fun aH4b => ?_) (fun aH4b => ?_)
   ·have aH4 := aH4b
    try simp only [qqT, qqF, qqN, qqM, qqL, qqE] at aH4
    obtain ⟨k, hk1, hk2⟩ := planE_ok (he r (by omega))
    have hcl := cnt_le plan k r
    refine VC.skip ?_
    refine VC.seq ?_
    refine VC.block ?_
    refine VC.sr ?_
    refine VO.val rfl rfl (OpV.indexAddr_1 rfl Tryz.underlying22 Tryz.sizeOf3 rfl rfl rfl (by omega)) ?_
    refine VO.val rfl rfl (OpV.load_at rfl hB OutW.no Tryz.isAgg3 rfl rfl) ?_
    refine VO.ma rfl rfl rfl rfl ?_
    refine VO.nil ?_
    refine VC.sr ?_
    refine VO.mv rfl rfl rfl rfl ?_
    refine VO.mv rfl rfl rfl rfl ?_
    refine VO.val rfl rfl (OpV.indexAddr_o rfl Tryz.underlying22 Tryz.sizeOf3 rfl rfl hk1 (by omega)) ?_
    refine VO.val rfl rfl (OpV.load_own (i := 0) rfl hB Tryz.isAgg3 rfl rfl (intsT_get hk2) (fun h => h)) ?_
    refine VO.val rfl rfl (OpV.add rfl rfl rfl (by unfold fits; omega)) ?_
    refine VO.val rfl rfl (OpV.indexAddr_o rfl Tryz.underlying22 Tryz.sizeOf3 rfl rfl hk1 (by omega)) ?_
    refine VO.op rfl (OpE.store1 (i := 0) rfl hB rfl Tryz.sizeOf3 rfl rfl rfl rfl rfl rfl (by rw [intsL_len, tabI_len]; exact hk2) ((intsL_set _ _ _).trans (congrArg intsL (tabI_set' (g := fun j => cnt plan j (r + 1)) (by rw [cnt, if_pos hk1]) (fun j hj hne => by rw [cnt, if_neg (by rw [hk1]; omega)]; omega)))) trivial ?_)
    refine VO.nil ?_
    refine VC.seq ?_
    refine VC.draw (fun _ => NoB) hB (by kernel_rfl) ?_
    refine VA.take (i := 0) rfl (by kernel_rfl) (by kernel_rfl) (by kernel_rfl) rfl rfl (OpV.move (.inl rfl) rfl) ?_
    refine VA.take (i := 1) rfl (by kernel_rfl) (by kernel_rfl) (by kernel_rfl) rfl rfl (OpV.move (.inl rfl) rfl) ?_
    refine VA.take (i := 2) rfl (by kernel_rfl) (by kernel_rfl) (by kernel_rfl) rfl rfl (OpV.indexAddr_o rfl Tryz.underlying22 Tryz.sizeOf3 rfl rfl hk1 (by omega)) ?_
    refine VA.take (i := 3) rfl (by kernel_rfl) (by kernel_rfl) (by kernel_rfl) rfl rfl (OpV.load_own (i := 0) rfl hB Tryz.isAgg3 rfl rfl (intsT_get hk2) Wi.not0) ?_
    refine VA.take (i := 4) rfl (by kernel_rfl) (by kernel_rfl) (by kernel_rfl) rfl rfl (OpV.move (.inl rfl) rfl) ?_
    refine VA.take (i := 5) rfl (by kernel_rfl) (by kernel_rfl) (by kernel_rfl) rfl rfl (OpV.move (.inl rfl) rfl) ?_
    refine VA.take (i := 6) rfl (by kernel_rfl) (by kernel_rfl) (by kernel_rfl) rfl rfl (OpV.indexAddr_E rfl Tryz.underlying102 Tryz.sizeOf128 rfl rfl hk1 (by omega)) ?_
    refine VA.take (i := 7) rfl (by kernel_rfl) (by kernel_rfl) (by kernel_rfl) rfl rfl (OpV.fieldAddr_atO 3 rfl Tryz.underlying128 rfl rfl Tryz.sizeOf3 rfl rfl) ?_
    refine VA.take (i := 8) rfl (by kernel_rfl) (by kernel_rfl) (by kernel_rfl) rfl rfl (OpV.load_at rfl hB OutW.wi0 Tryz.isAgg3 rfl rfl) ?_
    refine VA.take (i := 9) rfl (by kernel_rfl) (by kernel_rfl) (by kernel_rfl) rfl rfl (OpV.gtr rfl rfl rfl) ?_
    refine VA.done (by kernel_rfl) ?_
    refine VC.cond rfl (fun h12b => ?_) (fun h12b => ?_)
    ·have h12 := h12b
     try simp only [qqT, qqF, qqN, qqM, qqL, qqE] at h12
     refine VC.sr ?_
     refine VO.ma rfl rfl rfl rfl ?_
     refine VO.nil ?_
     refine VC.ret ?_
     exact Exists.intro _ (And.intro (RetN.one Tryz.results193 (ResN.v rfl)) (by rw [planF_12 (k := k) (by omega) (fun j hj => he j (by omega)) hk2 (Int.lt_of_lt_of_le h12 (cnt_mono _ _ (by omega)))]))
    ·have h12 := h12b
     try simp only [qqT, qqF, qqN, qqM, qqL, qqE] at h12
     refine VC.skip ?_
     refine VC.region ?_
     refine VO.val rfl rfl (OpV.add rfl rfl rfl (by unfold fits; omega)) ?_
     refine VO.mv rfl rfl rfl rfl ?_
     refine VO.nil ?_
     exact Exists.intro (⟨r + 1, by omega, fun j hj => by by_cases hjk : j = k; subst hjk; exact h12; (have := hc j hj; rw [cnt, if_neg (by rw [hk1]; omega)]; omega)⟩) (And.intro (Le.mk hB [0] ⟨rfl, rfl, rfl, rfl, rfl, trivial⟩ rfl rfl (Nat.le_refl _)) (by first | omega | (show _ < _; omega) | (simp only []; omega)))
   ·have aH4 := aH4b
    try simp only [qqT, qqF, qqN, qqM, qqL, qqE] at aH4
    refine VC.exit ?_
    refine VC.sr ?_
    refine VO.ma rfl rfl rfl rfl ?_
    refine VO.nil ?_
    refine VC.ret ?_
    exact Exists.intro _ (And.intro (RetN.one Tryz.results193 (ResN.v rfl)) (by rw [planF_0 (by omega) (fun j hj => he j (by omega)) (fun k hk => by have := hc k hk; rw [show plan.length = r by omega]; exact this)]))
end Go.Proofs.YtaaokimiadfidaaGreatDoor
namespace Go.Proofs.YtaaokimiadfidaaGreatDoor
open Go.RowKit
set_option linter.unusedVariables false
set_option linter.unusedSimpArgs false
set_option maxRecDepth 100000 in
theorem line_cycles {ms : List Mach} {ns : List NeedS} {plan : List Int} (hm : machF ms = 0) (hn : needsF ns 1 1000 = 0) (hp : planF ms ns plan = 0) :
  SpecN Tryz.prog 178 [avL ms, avL ns, avInts plan] (fun y => y = avInts (cycL ms ns plan)) := by
 have hlen := machF_len hm
 have hnl := needsF_len hn
 obtain ⟨hpl, he⟩ := planF_zero hp
 refine SpecN.of_VCN Tryz.func178 rfl Tryz.ntmps178 (Nle rfl) fun w A hB => ?_
 have hnew : True := trivial
 refine VC.sr ?_
 refine VO.ma rfl rfl rfl rfl ?_
 refine VO.nil ?_
 refine VC.sr ?_
 refine VO.mv rfl rfl rfl rfl ?_
 refine VO.val rfl rfl (OpV.len_im rfl Tryz.underlying102 rfl) ?_
 refine VO.op rfl (OpE.make rfl hB rfl Tryz.underlying22 (infoOf Tryz.t3 1 (by kernel_rfl) rfl rfl) (by decide) rfl rfl (n := ms.length) rfl rfl (by omega) (made_ints _) ?_)
 intro g14
 refine VO.ma rfl rfl rfl rfl ?_
 refine VO.nil ?_
 refine VC.seq ?_
 refine VC.sr ?_
 refine VO.mv rfl rfl rfl rfl ?_
 refine VO.val rfl rfl (OpV.len_im rfl Tryz.underlying102 rfl) ?_
 refine VO.mv rfl rfl rfl rfl ?_
 refine VO.nil ?_
 refine VC.block ?_
 refine VC.loopK [] trivial ({q : Nat // q ≤ ms.length}) (fun (iZ : {q : Nat // q ≤ ms.length}) => match iZ with | ⟨q, hq⟩ => [(0, avL ms), (1, avL ns), (2, avInts plan), (7, .v (.slice (some ⟨g14, 0, none⟩) ms.length ms.length)), (15, avL ms), (16, avI ms.length), (17, avI (q : Int))]) (fun (iZ : {q : Nat // q ≤ ms.length}) => match iZ with | ⟨q, hq⟩ => [.box g14 ⟨intsL (tabI ms.length (fun k => if k < q then (ms.getD k default).fixed else 0)), 3, (intsL (List.replicate ms.length 0)).length⟩]) (fun (iZ : {q : Nat // q ≤ ms.length}) => match iZ with | ⟨q, hq⟩ => 0) (fun (iZ : {q : Nat // q ≤ ms.length}) => match iZ with | ⟨q, hq⟩ => ms.length - q) ⟨0, Nat.zero_le _⟩ (Le.mk hB [0] ⟨rfl, rfl, rfl, rfl, rfl, rfl, rfl, trivial⟩ rfl (by rw [tabI_rep]; rfl) (Nat.le_refl _)) ?_
 rintro ⟨q, hq⟩
 show VC _ _ _ _ ⟨[(0, avL ms), (1, avL ns), (2, avInts plan), (7, .v (.slice (some ⟨g14, 0, none⟩) ms.length ms.length)), (15, avL ms), (16, avI ms.length), (17, avI (q : Int))] ++ [], [.box g14 ⟨intsL (tabI ms.length (fun k => if k < q then (ms.getD k default).fixed else 0)), 3, (intsL (List.replicate ms.length 0)).length⟩], 0⟩
 refine VC.sr ?_
 refine VO.val rfl rfl (OpV.lss rfl rfl rfl) ?_
 refine VO.nil ?_
 refine VC.seq ?_
 refine VC.cond rfl (fun aH1b => ?_) (fun aH1b => ?_)
 ·have aH1 := aH1b
  try simp only [qqT, qqF, qqN, qqM, qqL, qqE] at aH1
  refine VC.skip ?_
  refine VC.seq ?_
  refine VC.block ?_
  refine VC.sr ?_
  refine VO.mv rfl rfl rfl rfl ?_
  refine VO.val rfl rfl (OpV.indexAddr_E rfl Tryz.underlying102 Tryz.sizeOf128 rfl rfl rfl (by omega)) ?_
  refine VO.val rfl rfl (OpV.loadK_at rfl hB OutW.no Tryz.isAgg128 Tryz.sizeOf128 rfl rfl) ?_
  refine VO.op rfl (OpE.alloc rfl hB rfl Tryz.zeroValue128 rfl ?_)
  intro g9
  refine VO.ma rfl rfl rfl rfl ?_
  refine VO.op rfl (OpE.store (i := 1) rfl hB rfl Tryz.sizeOf128 rfl rfl rfl rfl rfl rfl (Nle rfl) trivial ?_)
  refine VO.nil ?_
  refine VC.region ?_
  refine VO.mv rfl rfl rfl rfl ?_
  refine VO.mv rfl rfl rfl rfl ?_
  refine VO.val rfl rfl (OpV.fieldAddrO 2 rfl Tryz.underlying128 rfl rfl Tryz.sizeOf3 rfl) ?_
  refine VO.val rfl rfl (OpV.load_own (i := 1) rfl hB Tryz.isAgg3 rfl rfl rfl (fun h => h)) ?_
  refine VO.val rfl rfl (OpV.indexAddr_o rfl Tryz.underlying22 Tryz.sizeOf3 rfl rfl rfl (by omega)) ?_
  refine VO.op rfl (OpE.store1 (i := 0) rfl hB rfl Tryz.sizeOf3 rfl rfl rfl rfl rfl rfl (by rw [intsL_len, tabI_len]; omega) ((intsL_set _ _ _).trans (congrArg intsL (tabI_set' (g := fun k => if k < q + 1 then (ms.getD k default).fixed else 0) (by rw [if_pos (by omega)]) (fun j hj hne => if_step hne)))) trivial ?_)
  refine VO.nil ?_
  refine VC.region ?_
  refine VO.val rfl rfl (OpV.add rfl rfl rfl (by unfold fits; omega)) ?_
  refine VO.mv rfl rfl rfl rfl ?_
  refine VO.nil ?_
  exact Exists.intro (⟨q + 1, by omega⟩) (And.intro (Le.mk hB [0] ⟨rfl, rfl, rfl, rfl, rfl, rfl, rfl, trivial⟩ rfl rfl (Nat.le_refl _)) (by first | omega | (show _ < _; omega) | (simp only []; omega)))
 ·have aH1 := aH1b
  try simp only [qqT, qqF, qqN, qqM, qqL, qqE] at aH1
  refine VC.exit ?_
  refine VC.seq ?_
  refine VC.sr ?_
  refine VO.mv rfl rfl rfl rfl ?_
  refine VO.val rfl rfl (OpV.len_im rfl Tryz.underlying22 rfl) ?_
  refine VO.mv rfl rfl rfl rfl ?_
  refine VO.nil ?_
  refine VC.block ?_
  refine VC.loopK [] trivial ({r : Nat // r ≤ plan.length}) (fun (iZ : {r : Nat // r ≤ plan.length}) => match iZ with | ⟨r, hr⟩ => [(0, avL ms), (1, avL ns), (7, .v (.slice (some ⟨g14, 0, none⟩) ms.length ms.length)), (28, avInts plan), (29, avI plan.length), (30, avI (r : Int))]) (fun (iZ : {r : Nat // r ≤ plan.length}) => match iZ with | ⟨r, hr⟩ => [.box g14 ⟨intsL (tabI ms.length (fun k => cyc ms ns plan k r)), 3, (intsL (List.replicate ms.length 0)).length⟩]) (fun (iZ : {r : Nat // r ≤ plan.length}) => match iZ with | ⟨r, hr⟩ => 0) (fun (iZ : {r : Nat // r ≤ plan.length}) => match iZ with | ⟨r, hr⟩ => plan.length - r) ⟨0, Nat.zero_le _⟩ (Le.mk hB [0] ⟨rfl, rfl, rfl, rfl, rfl, rfl, trivial⟩ rfl (congrArg (fun z => [Ent.box g14 ⟨intsL z, 3, (intsL (List.replicate ms.length 0)).length⟩]) (tabI_congr fun k hk => by rw [if_pos (by omega)]; rfl)) (Nat.le_refl _)) ?_
  rintro ⟨r, hr⟩
  show VC _ _ _ _ ⟨[(0, avL ms), (1, avL ns), (7, .v (.slice (some ⟨g14, 0, none⟩) ms.length ms.length)), (28, avInts plan), (29, avI plan.length), (30, avI (r : Int))] ++ [], [.box g14 ⟨intsL (tabI ms.length (fun k => cyc ms ns plan k r)), 3, (intsL (List.replicate ms.length 0)).length⟩], 0⟩
  refine VC.sr ?_
  refine VO.val rfl rfl (OpV.lss rfl rfl rfl) ?_
  refine VO.nil ?_
  refine VC.seq ?_
  refine VC.cond rfl (fun aH2b => ?_) (fun aH2b => ?_)
  ·have aH2 := aH2b
   try simp only [qqT, qqF, qqN, qqM, qqL, qqE] at aH2
   obtain ⟨k, hk1, hk2⟩ := planE_ok (he r (by omega))
   have hcy := cyc_in (plan := plan) hm hn hk2 (r := r) (by omega)
   have hmu := mul_in (machF_each hm hk2).1.1 (needsF_count hn (i := r) (by omega))
   refine VC.skip ?_
   refine VC.seq ?_
   refine VC.block ?_
   refine VC.sr ?_
   refine VO.mv rfl rfl rfl rfl ?_
   refine VO.val rfl rfl (OpV.indexAddr_1 rfl Tryz.underlying22 Tryz.sizeOf3 rfl rfl rfl (by omega)) ?_
   refine VO.val rfl rfl (OpV.load_at rfl hB OutW.no Tryz.isAgg3 rfl rfl) ?_
   refine VO.ma rfl rfl rfl rfl ?_
   refine VO.ma rfl rfl rfl rfl ?_
   refine VO.nil ?_
   refine VC.draw (fun j b => j = 17 ∧ b = g14) hB (by kernel_rfl) ?_
   refine VA.take (i := 0) rfl (by kernel_rfl) (by kernel_rfl) (by kernel_rfl) rfl rfl (OpV.move (.inl rfl) rfl) ?_
   refine VA.take (i := 1) rfl (by kernel_rfl) (by kernel_rfl) (by kernel_rfl) rfl rfl (OpV.move (.inl rfl) rfl) ?_
   refine VA.take (i := 2) rfl (by kernel_rfl) (by kernel_rfl) (by kernel_rfl) rfl rfl (OpV.indexAddr_o rfl Tryz.underlying22 Tryz.sizeOf3 rfl rfl hk1 (by omega)) ?_
   refine VA.take (i := 3) rfl (by kernel_rfl) (by kernel_rfl) (by kernel_rfl) rfl rfl (OpV.load_own (i := 0) rfl hB Tryz.isAgg3 rfl rfl (intsT_get hk2) (by first | exact Wi.not1 (by kernel_rfl) | exact Wi.not2 (by kernel_rfl) (by kernel_rfl) | exact Wi.notX (by kernel_rfl))) ?_
   refine VA.take (i := 4) rfl (by kernel_rfl) (by kernel_rfl) (by kernel_rfl) rfl rfl (OpV.move (.inl rfl) rfl) ?_
   refine VA.take (i := 5) rfl (by kernel_rfl) (by kernel_rfl) (by kernel_rfl) rfl rfl (OpV.move (.inl rfl) rfl) ?_
   refine VA.take (i := 6) rfl (by kernel_rfl) (by kernel_rfl) (by kernel_rfl) rfl rfl (OpV.indexAddr_E rfl Tryz.underlying102 Tryz.sizeOf128 rfl rfl hk1 (by omega)) ?_
   refine VA.take (i := 7) rfl (by kernel_rfl) (by kernel_rfl) (by kernel_rfl) rfl rfl (OpV.fieldAddr_atO 1 rfl Tryz.underlying128 rfl rfl Tryz.sizeOf3 rfl rfl) ?_
   refine VA.take (i := 8) rfl (by kernel_rfl) (by kernel_rfl) (by kernel_rfl) rfl rfl (OpV.load_at rfl hB (by first | exact OutW.wi1 (k := 0) rfl rfl) Tryz.isAgg3 rfl rfl) ?_
   refine VA.take (i := 9) rfl (by kernel_rfl) (by kernel_rfl) (by kernel_rfl) rfl rfl (OpV.move (.inl rfl) rfl) ?_
   refine VA.take (i := 10) rfl (by kernel_rfl) (by kernel_rfl) (by kernel_rfl) rfl rfl (OpV.move (.inl rfl) rfl) ?_
   refine VA.take (i := 11) rfl (by kernel_rfl) (by kernel_rfl) (by kernel_rfl) rfl rfl (OpV.indexAddr_E rfl Tryz.underlying77 Tryz.sizeOf96 rfl rfl rfl (by omega)) ?_
   refine VA.take (i := 12) rfl (by kernel_rfl) (by kernel_rfl) (by kernel_rfl) rfl rfl (OpV.fieldAddr_atO 1 rfl Tryz.underlying96 rfl rfl Tryz.sizeOf3 rfl rfl) ?_
   refine VA.take (i := 13) rfl (by kernel_rfl) (by kernel_rfl) (by kernel_rfl) rfl rfl (OpV.load_at rfl hB (by first | exact OutW.wi1 (k := 0) rfl rfl) Tryz.isAgg3 rfl rfl) ?_
   refine VA.take (i := 14) rfl (by kernel_rfl) (by kernel_rfl) (by kernel_rfl) rfl rfl (OpV.mul rfl rfl rfl (by unfold fits; omega)) ?_
   refine VA.take (i := 15) rfl (by kernel_rfl) (by kernel_rfl) (by kernel_rfl) rfl rfl (OpV.add rfl rfl rfl (by unfold fits; omega)) ?_
   refine VA.take (i := 16) rfl (by kernel_rfl) (by kernel_rfl) (by kernel_rfl) rfl rfl (OpV.indexAddr_o rfl Tryz.underlying22 Tryz.sizeOf3 rfl rfl hk1 (by omega)) ?_
   refine VA.all (rs := [17]) (by kernel_rfl) (by decide) ?_
   refine ⟨⟨_, rfl, .inl rfl, ?_⟩, trivial⟩
   refine OpE.store1 (i := 0) rfl hB rfl Tryz.sizeOf3 rfl rfl rfl rfl rfl rfl (by rw [intsL_len, tabI_len]; exact hk2) ((intsL_set _ _ _).trans (congrArg intsL (tabI_set' (g := fun j => cyc ms ns plan j (r + 1)) (by rw [cyc, if_pos hk1]) (fun j hj hne => by rw [cyc, if_neg (by rw [hk1]; omega)])))) (by first | exact ⟨rfl, rfl⟩ | exact .inl ⟨rfl, rfl⟩ | exact .inr ⟨rfl, rfl⟩ | exact ⟨rfl, trivial⟩ | exact .inl ⟨rfl, trivial⟩ | exact .inr ⟨rfl, trivial⟩ | exact ⟨by decide, rfl⟩) ?_
   refine VA.done (by kernel_rfl) ?_
   refine VC.region ?_
   refine VO.val rfl rfl (OpV.add rfl rfl rfl (by unfold fits; omega)) ?_
   refine VO.mv rfl rfl rfl rfl ?_
   refine VO.nil ?_
   exact Exists.intro (⟨r + 1, by omega⟩) (And.intro (Le.mk hB [0] ⟨rfl, rfl, rfl, rfl, rfl, rfl, trivial⟩ rfl rfl (Nat.le_refl _)) (by first | omega | (show _ < _; omega) | (simp only []; omega)))
  ·have aH2 := aH2b
   try simp only [qqT, qqF, qqN, qqM, qqL, qqE] at aH2
   refine VC.exit ?_
   refine VC.sr ?_
   refine VO.mv rfl rfl rfl rfl ?_
   refine VO.ma rfl rfl rfl rfl ?_
   refine VO.nil ?_
   refine VC.ret ?_
   exact Exists.intro _ (And.intro (RetN.one Tryz.results178 (ResN.boxI (i := 0) rfl rfl (tabI_len _ _).symm (Nat.le_refl _) (capM (by omega)))) (by rw [show r = plan.length by omega]; rfl))
set_option maxRecDepth 100000 in
theorem line_planned {ms : List Mach} {ns : List NeedS} {plan : List Int} (hm : SmallM ms) (hn : SmallN ns) (hp : plan.length ≤ 1000000000) :
  SpecN Tryz.prog 191 [avL ms, avL ns, avInts plan] (fun y => y = avI (lineF ms ns plan)) := by
 refine SpecN.of_VCN Tryz.func191 rfl Tryz.ntmps191 (Nle rfl) fun w A hB => ?_
 have hnew : True := trivial
 refine VC.sr ?_
 refine VO.ma rfl rfl rfl rfl ?_
 refine VO.nil ?_
 refine VC.seq ?_
 refine VC.sr ?_
 refine VO.mv rfl rfl rfl rfl ?_
 refine VO.mv rfl rfl rfl rfl ?_
 refine VO.op rfl (OpE.call rfl hB rfl Tryz.call172 rfl (SpecN.spec (line_fault hm.l hm.k hm.c hm.s hn.l hn.k)) ?_)
 rintro _ rfl
 refine VO.ma rfl rfl rfl rfl ?_
 refine VO.nil ?_
 refine VC.sr ?_
 refine VO.mv rfl rfl rfl rfl ?_
 refine VO.val rfl rfl (OpV.neq rfl rfl rfl) ?_
 refine VO.nil ?_
 refine VC.cond rfl (fun h0b => ?_) (fun h0b => ?_)
 ·have h0 := h0b
  try simp only [qqT, qqF, qqN, qqM, qqL, qqE] at h0
  refine VC.sr ?_
  refine VO.mv rfl rfl rfl rfl ?_
  refine VO.ma rfl rfl rfl rfl ?_
  refine VO.nil ?_
  refine VC.ret ?_
  exact Exists.intro _ (And.intro (RetN.one Tryz.results191 (ResN.v rfl)) (by first | rw [lineF, if_pos h0] | rw [lineF, if_neg h0]))
 ·have h0 := h0b
  try simp only [qqT, qqF, qqN, qqM, qqL, qqE] at h0
  refine VC.skip ?_
  refine VC.sr ?_
  refine VO.mv rfl rfl rfl rfl ?_
  refine VO.mv rfl rfl rfl rfl ?_
  refine VO.mv rfl rfl rfl rfl ?_
  refine VO.op rfl (OpE.call rfl hB rfl Tryz.call193 rfl (SpecN.spec (line_planFault (faultF_0 (ms := ms) (ns := ns) (by omega)).1 hn.l hp)) ?_)
  rintro _ rfl
  refine VO.ma rfl rfl rfl rfl ?_
  refine VO.nil ?_
  refine VC.ret ?_
  exact Exists.intro _ (And.intro (RetN.one Tryz.results191 (ResN.v rfl)) (by first | rw [lineF, if_pos h0] | rw [lineF, if_neg h0]))
set_option maxRecDepth 100000 in
theorem line_Cycles {ms : List Mach} {ns : List NeedS} {plan : List Int} (hm : SmallM ms) (hn : SmallN ns) (hp : plan.length ≤ 1000000000) :
  Spec Tryz.prog 84 [avL ms, avL ns, avInts plan] (fun y => y = .tup [avInts (if lineF ms ns plan = 0 then cycL ms ns plan else []), avI (lineF ms ns plan)]) := by
 refine Spec.of_VC Tryz.func84 rfl Tryz.ntmps84 (Nle rfl) fun w A hB => ?_
 have hnew : True := trivial
 refine VC.sr ?_
 refine VO.ma rfl rfl rfl rfl ?_
 refine VO.ma rfl rfl rfl rfl ?_
 refine VO.nil ?_
 refine VC.seq ?_
 refine VC.sr ?_
 refine VO.mv rfl rfl rfl rfl ?_
 refine VO.mv rfl rfl rfl rfl ?_
 refine VO.mv rfl rfl rfl rfl ?_
 refine VO.op rfl (OpE.call rfl hB rfl Tryz.call191 rfl (SpecN.spec (line_planned hm hn hp)) ?_)
 rintro _ rfl
 refine VO.ma rfl rfl rfl rfl ?_
 refine VO.nil ?_
 refine VC.sr ?_
 refine VO.mv rfl rfl rfl rfl ?_
 refine VO.val rfl rfl (OpV.neq rfl rfl rfl) ?_
 refine VO.nil ?_
 refine VC.cond rfl (fun h0b => ?_) (fun h0b => ?_)
 ·have h0 := h0b
  try simp only [qqT, qqF, qqN, qqM, qqL, qqE] at h0
  refine VC.sr ?_
  refine VO.mv rfl rfl rfl rfl ?_
  refine VO.ma rfl rfl rfl rfl ?_
  refine VO.ma rfl rfl rfl rfl ?_
  refine VO.nil ?_
  refine VC.le _ (Le.recast (t := 6) (y := avInts []) rfl (fun w Z u h => by rw [h.eq_v]; exact .nil _ _)) ?_
  refine VC.ret ?_
  exact Exists.intro _ (And.intro (RetV.two Tryz.results84 (ResV.tmp rfl) (ResV.tmp rfl)) (by rw [if_neg h0]))
 ·have h0 := h0b
  try simp only [qqT, qqF, qqN, qqM, qqL, qqE] at h0
  refine VC.skip ?_
  refine VC.sr ?_
  refine VO.mv rfl rfl rfl rfl ?_
  refine VO.mv rfl rfl rfl rfl ?_
  refine VO.mv rfl rfl rfl rfl ?_
  refine VO.op rfl (OpE.call rfl hB rfl Tryz.call178 rfl (SpecN.spec (line_cycles (lineF_0 (ms := ms) (ns := ns) (plan := plan) (by omega)).1 (lineF_0 (ms := ms) (ns := ns) (plan := plan) (by omega)).2.1 (lineF_0 (ms := ms) (ns := ns) (plan := plan) (by omega)).2.2)) ?_)
  rintro _ rfl
  refine VO.ma rfl rfl rfl rfl ?_
  refine VO.ma rfl rfl rfl rfl ?_
  refine VO.nil ?_
  refine VC.ret ?_
  exact Exists.intro _ (And.intro (RetV.two Tryz.results84 (ResV.tmp rfl) (ResV.tmp rfl)) (by rw [if_pos (by omega), show lineF ms ns plan = 0 by omega]))
end Go.Proofs.YtaaokimiadfidaaGreatDoor
namespace Go.Proofs.YtaaokimiadfidaaGreatDoor
open Go.RowKit
set_option linter.unusedVariables false
set_option linter.unusedSimpArgs false
section
variable {P : Program} {ops : Array Oper} {Q : Act → World → Prop} {md : Region.Mode} {E : Nat → World → World → Prop}
theorem wpAnyE_firstT {S : Nat → Bool} {F : World → World → Prop} (htr : ∀ x y z, F x y → F y z → F x z) (hrf : ∀ x, F x x) {i : Nat} (hEr : ∀ x, E i x x)
  (hEF : ∀ j oj, ops[j]? = some oj → S j = false → ∀ w w', E j w w' → F w w') (hcl : ∀ k, S k = true → k ≠ i → ∃ ok, ops[k]? = some ok ∧ ∃ e ∈ ok.after, Region.binds md e = true ∧ S e.on = true)
  {oi : Oper} {v : Value} (hi : ops[i]? = some oi) (hsel : ∀ (j : Nat) (o : Oper) cs b, ops[j]? = some o → o.op ≠ .select cs b) :
  ∀ (fuel : Nat) (listed : Array Bool) (a : Act) (w : World), (∀ k, S k = true → listed.getD k true = false) →
   (∀ j oj, ops[j]? = some oj → j ≠ i → listed.getD j true = false → (∀ e ∈ oj.after, Region.binds md e = true → e.on ≠ i) → oi.apart ops oj = true) →
   i ∈ Region.ready md ops listed → YieldsE P ops F oi v a w →
   wpAnyE P md ops Q E fuel (listed.setIfInBounds i true) (a.put oi.dst v) w → wpAnyE P md ops Q E (fuel + 1) listed a w := by
 intro fuel
 induction fuel with
 | zero =>
  intro listed a w _ _ hr hy H
  refine ⟨fun h => (by rw [h] at hr; cases hr), fun j hj => ?_⟩
  by_cases hji : j = i
  ·subst hji; exact YieldsIf.wpOp hi hy.iff (hrf w) ⟨hEr w, H⟩
  ·have := ready_mono hj hji
   rw [H.1] at this
   cases this
 | succ fuel ih =>
  intro listed a w hS hfree hr hy H
  refine ⟨fun h => (by rw [h] at hr; cases hr), fun j hj => ?_⟩
  by_cases hji : j = i
  ·subst hji; exact YieldsIf.wpOp hi hy.iff (hrf w) ⟨hEr w, H⟩
  ·have h1 := H.2 j (ready_mono hj hji)
   obtain ⟨hjun, oj, hoj, hall⟩ := mem_ready.1 hj
   have hnot : ∀ e ∈ oj.after, Region.binds md e = true → e.on ≠ i := fun e he hb heq => by
    have h1 := hall e he hb
    have h0 := (mem_ready.1 hr).1
    rw [heq] at h1
    rcases Nat.lt_or_ge i listed.size with h' | h'
    ·simp [h'] at h0 h1; rw [h0] at h1; cases h1
    ·simp [Array.getElem?_eq_none h'] at h1
   have hjS : S j = false := by
    cases hc : S j with
    | false => rfl
    | true =>
     obtain ⟨ok, k1, e, he, hb, k2⟩ := hcl j hc hji
     obtain rfl : oj = ok := Option.some.inj (hoj.symm.trans k1)
     have h1 := hall e he hb
     have h0 := hS e.on k2
     rcases Nat.lt_or_ge e.on listed.size with h' | h'
     ·simp [h'] at h0 h1; rw [h0] at h1; cases h1
     ·simp [Array.getElem?_eq_none h'] at h1
   have h2 := wpOp_putIf (S := F w) hoj (hfree j oj hoj hji hjun hnot) (fun cs b => hsel i oi cs b hi) (fun cs b => hsel j oj cs b hoj) (fun c a w h => h.elim) hy.iff h1
   have hfree' : ∀ k ok, ops[k]? = some ok → k ≠ i → (listed.setIfInBounds j true).getD k true = false →
     (∀ e ∈ ok.after, Region.binds md e = true → e.on ≠ i) → oi.apart ops ok = true := fun k ok hk hki hun hno => by
    refine hfree k ok hk hki ?_ hno
    by_cases hjk : j = k
    ·subst hjk; exact hjun
    ·rw [Go.getD_set_ne true hjk] at hun; exact hun
   have hS' : ∀ k, S k = true → (listed.setIfInBounds j true).getD k true = false := fun k hk => by
    have hjk : j ≠ k := fun e => by rw [e, hk] at hjS; cases hjS
    rw [Go.getD_set_ne true hjk]; exact hS k hk
   refine wpOp_mono (fun a' w' h3 => ⟨h3.2.1, ih (listed.setIfInBounds j true) a' w' hS' hfree' (ready_mono hr (Ne.symm hji)) ?_ ?_⟩) h2
   ·rcases h3.1 with ⟨k1, k2⟩ | k
    ·exact .inl ⟨k1, fun w'' hw'' => k2 w'' (htr _ _ _ (hEF j oj hoj hjS _ _ h3.2.1) hw'')⟩
    ·exact .inr k
   rw [Array.setIfInBounds_comm _ _ hji]
   exact h3.2.2
end
section
variable {P : Program} {B : Bs} {V : Nat → Nat → Prop} {ops : Array Oper} {s : St'} {Q : Exit → St' → Prop} {n : Nat} {L : Array Bool}
def WS (V : Nat → Nat → Prop) (S : List Nat) : Nat → Prop := fun b => ∃ j, S.contains j = false ∧ V j b
def hangB (ops : Array Oper) (S : List Nat) (i : Nat) : Bool := S.all fun k => k == i || match ops[k]? with
 | some o => o.after.any fun e => Region.binds .any e && S.contains e.on
 | none => false
theorem VA.takeT (S : List Nat) {i : Nat} {o : Oper} {x : AV} (hS : hangB ops S i = true) (hL : (S.all fun k => !(L.getD k true)) = true) (hi : ops[i]? = some o) (hs : Region.noSelect ops = true) (hf : Region.free .any ops L i = true) (hr : (Region.ready .any ops L).contains i = true) (hg : o.guard = none) (hd : okd B.nt o.dst = true)
  (hv : OpV P B (WS V S) s o x) (h : VA P B V ops Q n (L.setIfInBounds i true) (s.put o.dst x)) : VA P B V ops Q (n + 1) L s := fun a w hR => by
 obtain ⟨v, h1, h2⟩ := hv a w hR
 refine wpAnyE_firstT (S := fun k => S.contains k) (F := Ew B (WS V S)) Ew.tr Ew.rf (fun x => Ew.rf x) (fun j oj hj hjS w w' h => h.mono fun b _ hb => hb.imp id fun hv => ⟨j, hjS, hv⟩) (fun k hk hki => ?_) hi (Region.noSelect_spec hs) n L a w (fun k hk => ?_) (Region.free_spec hi hf) (by simpa using hr) (.inl ⟨by simp [Region.wanted, hg], h1⟩) (h _ _ (hR.put _ hd _ _ h2))
 ·have hk' : k ∈ S := by simpa using hk
  have := List.all_eq_true.1 hS k hk'
  simp only [Bool.or_eq_true, beq_iff_eq] at this
  have := this.resolve_left hki
  cases ho : ops[k]? with
  | none => rw [ho] at this; cases this
  | some ok =>
   rw [ho] at this
   obtain ⟨e, he, h3⟩ := Array.any_eq_true'.1 this
   simp only [Bool.and_eq_true] at h3
   exact ⟨ok, rfl, e, he, h3.1, h3.2⟩
 ·have hk' : k ∈ S := by simpa using hk
  have := List.all_eq_true.1 hL k hk'
  simpa using this
end
end Go.Proofs.YtaaokimiadfidaaGreatDoor
namespace Go.Proofs.YtaaokimiadfidaaGreatDoor
open Go.RowKit
set_option linter.unusedVariables false
set_option linter.unusedSimpArgs false
def balC (ms : List Mach) (ns : List NeedS) (u : Value) : Nat → AV := fun j => match j with
 | 0 => avL ms
 | 1 => avL ns
 | 2 => .v u
 | _ => .any
theorem bit_no (set q : Nat) : decide (((set / 2 ^ q &&& 1 : Nat) : Int) = 0) = !set.testBit q := by
 rw [Nat.testBit_eq_decide_div_mod_eq, Nat.and_one_is_mod]
 have h := Nat.mod_two_eq_zero_or_one (set / 2 ^ q)
 rcases h with h | h
 ·rw [h]; rfl
 ·rw [h]; rfl
section
variable {m : Mach} {ns : List NeedS} {b : Nat → Bool} {q : Nat}
theorem timB_no (h : b q = false) : timB m ns b (q + 1) = timB m ns b q := by rw [timB, if_neg (by rw [h]; simp)]
theorem timB_yes (h : b q = true) : timB m ns b (q + 1) = timB m ns b q + m.each * (ns.getD q default).count := by rw [timB, if_pos h]
theorem numB_no (h : b q = false) : numB b (q + 1) = numB b q := by rw [numB, if_neg (by rw [h]; simp)]; rfl
theorem numB_yes (h : b q = true) : numB b (q + 1) = numB b q + 1 := by rw [numB, if_pos h]
theorem okA_skip (h : b q = false) : okA m ns b q = true := by unfold okA; rw [h]; rfl
theorem okA_f1 (h : b q = true) (h2 : m.feeders < (numB b q : Int) + 1) : okA m ns b q = false := by
 unfold okA
 rw [h, numB_yes h, decide_eq_false (by omega)]; simp
theorem okA_f2 (h : b q = true) (h2 : hasK m (ns.getD q default).key = false) : okA m ns b q = false := by
 unfold okA
 rw [h, h2]; simp
theorem okA_yes (h : b q = true) (h2 : ¬ m.feeders < (numB b q : Int) + 1) (h3 : hasK m (ns.getD q default).key = true) : okA m ns b q = true := by
 unfold okA
 rw [h, h3, numB_yes h, decide_eq_true (by omega)]; rfl
theorem numB_le (b : Nat → Bool) : ∀ q, numB b q ≤ q
 | 0 => Nat.le_refl _
 | q + 1 => by have := numB_le b q; rw [numB]; split <;> omega
end
set_option maxRecDepth 100000 in
set_option maxHeartbeats 4000000 in
theorem bal_cycle {ms : List Mach} {ns : List NeedS} {u : Value} {k set : Nat} (hm : machF ms = 0) (hns : needsF ns 1 1000 = 0) (h12 : ns.length ≤ 12) (hk : k < ms.length) (hset : set < 9223372036854775808) :
  SpecN Tryz.prog 277 [.at_ 3 (balC ms ns u), avI (k : Int), avI (set : Int)] (fun y => y = avI (cycB (ms.getD k default) ns set.testBit)) := by
 have hM := MnOk.mk' hm hns
 have hlen := machF_len hm
 have hfe := (machF_each hm hk).1.2.2
 refine SpecN.of_VCN Tryz.func277 rfl Tryz.ntmps277 (Nle rfl) fun w A hB => ?_
 have hnew : True := trivial
 refine VC.sr ?_
 refine VO.ma rfl rfl rfl rfl ?_
 refine VO.nil ?_
 refine VC.sr ?_
 refine VO.mv rfl rfl rfl rfl ?_
 refine VO.val rfl rfl (OpV.nilCheck_at rfl rfl) ?_
 refine VO.val rfl rfl (OpV.fieldAddr_atO 0 rfl Tryz.underlying221 rfl rfl Tryz.sizeOf102 rfl rfl) ?_
 refine VO.val rfl rfl (OpV.load_at rfl hB OutW.no Tryz.isAgg102 rfl rfl) ?_
 refine VO.le _ (Le.recast (t := 15) (y := avL ms) rfl (fun w Z u h => h)) ?_
 refine VO.mv rfl rfl rfl rfl ?_
 refine VO.val rfl rfl (OpV.indexAddr_E rfl Tryz.underlying102 Tryz.sizeOf128 rfl rfl rfl (by omega)) ?_
 refine VO.val rfl rfl (OpV.loadK_at rfl hB OutW.no Tryz.isAgg128 Tryz.sizeOf128 rfl rfl) ?_
 refine VO.op rfl (OpE.alloc rfl hB rfl Tryz.zeroValue128 rfl ?_)
 intro g7
 refine VO.op rfl (OpE.store (i := 0) rfl hB rfl Tryz.sizeOf128 rfl rfl rfl rfl rfl rfl (Nle rfl) trivial ?_)
 refine VO.nil ?_
 refine VC.sr ?_
 refine VO.val rfl rfl (OpV.fieldAddrO 2 rfl Tryz.underlying128 rfl rfl Tryz.sizeOf3 rfl) ?_
 refine VO.val rfl rfl (OpV.load_own (i := 0) rfl hB Tryz.isAgg3 rfl rfl rfl (fun h => h)) ?_
 refine VO.ma rfl rfl rfl rfl ?_
 refine VO.ma rfl rfl rfl rfl ?_
 refine VO.nil ?_
 refine VC.seq ?_
 refine VC.sr ?_
 refine VO.mv rfl rfl rfl rfl ?_
 refine VO.val rfl rfl (OpV.nilCheck_at rfl rfl) ?_
 refine VO.val rfl rfl (OpV.fieldAddr_atO 1 rfl Tryz.underlying221 rfl rfl Tryz.sizeOf77 rfl rfl) ?_
 refine VO.val rfl rfl (OpV.load_at rfl hB OutW.no Tryz.isAgg77 rfl rfl) ?_
 refine VO.le _ (Le.recast (t := 24) (y := avL ns) rfl (fun w Z u h => h)) ?_
 refine VO.val rfl rfl (OpV.len_im rfl Tryz.underlying77 rfl) ?_
 refine VO.mv rfl rfl rfl rfl ?_
 refine VO.nil ?_
 refine VC.block ?_
 refine VC.loopK [(2, _), (7, _), (24, _), (25, _)] ⟨rfl, rfl, rfl, rfl, trivial⟩ ({q : Nat // q ≤ ns.length ∧ ∀ j, j < q → okA (ms.getD k default) ns set.testBit j = true}) (fun (iZ : {q : Nat // q ≤ ns.length ∧ ∀ j, j < q → okA (ms.getD k default) ns set.testBit j = true}) => match iZ with | ⟨q, hq, hn⟩ => [(8, avI (timB (ms.getD k default) ns set.testBit q)), (9, avI (numB set.testBit q : Int)), (26, avI (q : Int))]) (fun (iZ : {q : Nat // q ≤ ns.length ∧ ∀ j, j < q → okA (ms.getD k default) ns set.testBit j = true}) => match iZ with | ⟨q, hq, hn⟩ => [.box g7 ⟨tab 5 (Sxc.cell (ms.getD k default)), 128, 5⟩]) (fun (iZ : {q : Nat // q ≤ ns.length ∧ ∀ j, j < q → okA (ms.getD k default) ns set.testBit j = true}) => match iZ with | ⟨q, hq, hn⟩ => 0) (fun (iZ : {q : Nat // q ≤ ns.length ∧ ∀ j, j < q → okA (ms.getD k default) ns set.testBit j = true}) => match iZ with | ⟨q, hq, hn⟩ => ns.length - q) ⟨0, Nat.zero_le _, fun j hj => absurd hj (Nat.not_lt_zero j)⟩ (Le.mk hB [0] ⟨rfl, rfl, rfl, rfl, rfl, rfl, rfl, trivial⟩ rfl rfl (Nat.le_refl _)) ?_
 rintro ⟨q, hq, hn⟩
 show VC _ _ _ _ ⟨[(8, avI (timB (ms.getD k default) ns set.testBit q)), (9, avI (numB set.testBit q : Int)), (26, avI (q : Int))] ++ [(2, _), (7, _), (24, _), (25, _)], [.box g7 ⟨tab 5 (Sxc.cell (ms.getD k default)), 128, 5⟩], 0⟩
 have hti := timB_in hM k set.testBit q
 have hmu := mul_in2 (hM.each k) (hM.cnt q)
 have hnb := numB_le set.testBit q
 refine VC.sr ?_
 refine VO.val rfl rfl (OpV.lss rfl rfl rfl) ?_
 refine VO.nil ?_
 refine VC.seq ?_
 refine VC.cond rfl (fun aH1b => ?_) (fun aH1b => ?_)
 ·have aH1 := aH1b
  try simp only [qqT, qqF, qqN, qqM, qqL, qqE] at aH1
  refine VC.skip ?_
  refine VC.seq ?_
  refine VC.block ?_
  refine VC.sr ?_
  refine VO.mv rfl rfl rfl rfl ?_
  refine VO.val rfl rfl (OpV.indexAddr_E rfl Tryz.underlying77 Tryz.sizeOf96 rfl rfl rfl (by omega)) ?_
  refine VO.val rfl rfl (OpV.loadK_at rfl hB OutW.no Tryz.isAgg96 Tryz.sizeOf96 rfl rfl) ?_
  refine VO.op rfl (OpE.alloc rfl hB rfl Tryz.zeroValue96 rfl ?_)
  intro g11
  refine VO.ma rfl rfl rfl rfl ?_
  refine VO.op rfl (OpE.store (i := 1) rfl hB rfl Tryz.sizeOf96 rfl rfl rfl rfl rfl rfl (Nle rfl) trivial ?_)
  refine VO.nil ?_
  refine VC.seq ?_
  refine VC.sr ?_
  refine VO.mv rfl rfl rfl rfl ?_
  refine VO.mv rfl rfl rfl rfl ?_
  refine VO.val rfl rfl (OpV.bshr rfl rfl rfl (by omega)) ?_
  refine VO.val rfl rfl (OpV.band (b := 1) rfl rfl rfl (Nat.lt_of_le_of_lt (Nat.div_le_self _ _) hset) (by decide)) ?_
  refine VO.val rfl rfl (OpV.eql rfl rfl rfl) ?_
  refine VO.le _ (Le.recast (t := 35) (y := avB (!(set.testBit q))) rfl (fun w Z u h => by rw [← bit_no]; exact h)) ?_
  refine VO.nil ?_
  refine VC.cond rfl (fun h1b => ?_) (fun h1b => ?_)
  ·have h1 := h1b
   try simp only [qqT, qqF, qqN, qqM, qqL, qqE] at h1
   refine VC.exit ?_
   refine VC.region ?_
   refine VO.val rfl rfl (OpV.add rfl rfl rfl (by unfold fits; omega)) ?_
   refine VO.mv rfl rfl rfl rfl ?_
   refine VO.nil ?_
   exact Exists.intro (⟨q + 1, by omega, lt_succ_cases hn ((okA_skip h1))⟩) (And.intro (Le.mk hB [0] ⟨(by dsimp only; first | (rw [timB_no h1]; rfl) | (rw [timB_yes h1]; rfl)), (by dsimp only; first | (rw [numB_no h1]; rfl) | (rw [numB_yes h1]; rfl)), rfl, rfl, rfl, rfl, rfl, trivial⟩ rfl rfl (Nat.le_refl _)) (by first | omega | (show _ < _; omega) | (simp only []; omega)))
  ·have h1 := h1b
   try simp only [qqT, qqF, qqN, qqM, qqL, qqE] at h1
   refine VC.skip ?_
   refine VC.seq ?_
   refine VC.sr ?_
   refine VO.mv rfl rfl rfl rfl ?_
   refine VO.val rfl rfl (OpV.add rfl rfl rfl (by unfold fits; omega)) ?_
   refine VO.ma rfl rfl rfl rfl ?_
   refine VO.nil ?_
   refine VC.sr ?_
   refine VO.mv rfl rfl rfl rfl ?_
   refine VO.val rfl rfl (OpV.fieldAddrO 3 rfl Tryz.underlying128 rfl rfl Tryz.sizeOf3 rfl) ?_
   refine VO.val rfl rfl (OpV.load_own (i := 0) rfl hB Tryz.isAgg3 rfl rfl rfl (fun h => h)) ?_
   refine VO.val rfl rfl (OpV.gtr rfl rfl rfl) ?_
   refine VO.mv rfl rfl rfl rfl ?_
   refine VO.opG rfl rfl rfl rfl (fun aK2b => ?_) (fun aK2b => ?_)
   ·replace aK2b : _ = false := aK2b
    have aK2 := aK2b
    try simp only [qqT, qqF, qqN, qqM, qqL, qqE] at aK2
    refine OpE.val (W := NoB) (OpV.loadK_own (i := 0) rfl hB Tryz.isAgg128 Tryz.sizeOf128 rfl rfl rfl (fun h => h)) rfl ?_
    refine VO.opY rfl rfl rfl rfl aK2b ?_
    refine OpE.val (W := NoB) (OpV.fieldAddrO 0 rfl Tryz.underlying96 rfl rfl Tryz.sizeOf9 rfl) rfl ?_
    refine VO.opY rfl rfl rfl rfl aK2b ?_
    refine OpE.val (W := NoB) (OpV.load_own (i := 1) rfl hB Tryz.isAgg9 rfl rfl rfl (fun h => h)) rfl ?_
    refine VO.opY rfl rfl rfl rfl aK2b ?_
    refine OpE.call rfl hB rfl Tryz.call179 rfl (SpecN.spec (line_can (by have := canF_keys (machF_each hm hk).2; omega) (canF_sort (machF_each hm hk).2))) ?_
    rintro _ rfl
    refine VO.opY rfl rfl rfl rfl aK2b ?_
    refine OpE.val (W := NoB) (OpV.not rfl rfl) rfl ?_
    refine VO.val rfl rfl (OpV.pickF rfl rfl rfl rfl aK2b) ?_
    refine VO.nil ?_
    refine VC.cond rfl (fun h2b => ?_) (fun h2b => ?_)
    ·have h2 := h2b
     try simp only [qqT, qqF, qqN, qqM, qqL, qqE] at h2
     refine VC.sr ?_
     refine VO.ma rfl rfl rfl rfl ?_
     refine VO.nil ?_
     refine VC.ret ?_
     exact Exists.intro _ (And.intro (RetN.one Tryz.results277 (ResN.v rfl)) (by first | rw [okB_no (i := q) (by omega) (okA_f1 h1 (by omega))] | rw [okB_no (i := q) (by omega) (okA_f2 h1 (by simpa using h2))]))
    ·have h2 := h2b
     try simp only [qqT, qqF, qqN, qqM, qqL, qqE] at h2
     refine VC.skip ?_
     refine VC.region ?_
     refine VO.mv rfl rfl rfl rfl ?_
     refine VO.val rfl rfl (OpV.fieldAddrO 1 rfl Tryz.underlying128 rfl rfl Tryz.sizeOf3 rfl) ?_
     refine VO.val rfl rfl (OpV.load_own (i := 0) rfl hB Tryz.isAgg3 rfl rfl rfl (fun h => h)) ?_
     refine VO.val rfl rfl (OpV.fieldAddrO 1 rfl Tryz.underlying96 rfl rfl Tryz.sizeOf3 rfl) ?_
     refine VO.val rfl rfl (OpV.load_own (i := 1) rfl hB Tryz.isAgg3 rfl rfl rfl (fun h => h)) ?_
     refine VO.val rfl rfl (OpV.mul rfl rfl rfl (by unfold fits; omega)) ?_
     refine VO.val rfl rfl (OpV.add rfl rfl rfl (by unfold fits; omega)) ?_
     refine VO.ma rfl rfl rfl rfl ?_
     refine VO.nil ?_
     refine VC.region ?_
     refine VO.val rfl rfl (OpV.add rfl rfl rfl (by unfold fits; omega)) ?_
     refine VO.mv rfl rfl rfl rfl ?_
     refine VO.nil ?_
     exact Exists.intro (⟨q + 1, by omega, lt_succ_cases hn ((okA_yes h1 (by omega) (by simpa using h2)))⟩) (And.intro (Le.mk hB [0] ⟨(by dsimp only; first | (rw [timB_no h1]; rfl) | (rw [timB_yes h1]; rfl)), (by dsimp only; first | (rw [numB_no h1]; rfl) | (rw [numB_yes h1]; rfl)), rfl, rfl, rfl, rfl, rfl, trivial⟩ rfl rfl (Nat.le_refl _)) (by first | omega | (show _ < _; omega) | (simp only []; omega)))
   ·replace aK2b : _ = true := aK2b
    have aK2 := aK2b
    try simp only [qqT, qqF, qqN, qqM, qqL, qqE] at aK2
    refine VO.opX rfl rfl rfl rfl aK2b ?_
    refine VO.opX rfl rfl rfl rfl aK2b ?_
    refine VO.opX rfl rfl rfl rfl aK2b ?_
    refine VO.opX rfl rfl rfl rfl aK2b ?_
    refine VO.val rfl rfl (OpV.pickT rfl rfl rfl rfl aK2b) ?_
    refine VO.nil ?_
    refine VC.condT rfl rfl ?_
    refine VC.sr ?_
    refine VO.ma rfl rfl rfl rfl ?_
    refine VO.nil ?_
    refine VC.ret ?_
    exact Exists.intro _ (And.intro (RetN.one Tryz.results277 (ResN.v rfl)) (by first | rw [okB_no (i := q) (by omega) (okA_f1 h1 (by omega))] | rw [okB_no (i := q) (by omega) (okA_f2 h1 (by simpa using h2))]))
 ·have aH1 := aH1b
  try simp only [qqT, qqF, qqN, qqM, qqL, qqE] at aH1
  refine VC.exit ?_
  refine VC.sr ?_
  refine VO.mv rfl rfl rfl rfl ?_
  refine VO.ma rfl rfl rfl rfl ?_
  refine VO.nil ?_
  refine VC.ret ?_
  exact Exists.intro _ (And.intro (RetN.one Tryz.results277 (ResN.v rfl)) (by rw [okB_all (fun i hi => hn i (by omega)), show q = ns.length by omega]))
theorem or_lt12 {a b : Nat} (ha : a < 4096) (hb : b < 4096) : a ||| b < 4096 := Nat.or_lt_two_pow (n := 12) ha hb
abbrev fixB (gf n : Nat) (fx : Nat → Nat) : Ent := .box gf ⟨intsL (tabI n fun k => (fx k : Int)), 3, n⟩
theorem belS_zero' {ms : List Mach} {ns : List NeedS} {fx : Nat → Nat} {r : Nat} {bl : List Int} (h : bl.length = r + 1) (hn : ∀ j, j < r + 1 → bl.getD j 0 = neverC) : SetI r (belS ms ns fx 0) (bl.set 0 0) := ⟨by rw [List.length_set]; exact h, fun s hs => by
 have := hs.le
 rw [getDs (by omega), belS]
 by_cases e : s = 0
 ·rw [if_pos e, if_pos e]
 ·rw [if_neg e, if_neg e]; exact hn s (by omega)⟩
theorem intsL_getV {xs : List Int} {j : Nat} {v : Int} (h : j < xs.length) (hv : xs.getD j 0 = v) : (intsL xs)[j]? = some (avI v) := by rw [intsL_get h, hv]
theorem setInt_get {l : List Int} {j : Nat} {v : Int} (h : j < l.length) : (intsL (l.set j v))[j]? = some (avI v) := by rw [intsL_get (by rw [List.length_set]; exact h), getDs h, if_pos rfl]
theorem setInt_set (l : List Int) (j : Nat) (v x : Int) : (intsL (l.set j v)).set j (avI x) = intsL (l.set j x) := by rw [intsL_set, List.set_set]
theorem rep_len (n : Nat) (x : Int) : (List.replicate n x).length = n := by simp
set_option maxRecDepth 100000 in
set_option maxHeartbeats 16000000 in
theorem bal_longest {ms : List Mach} {ns : List NeedS} {gf : Nat} {fx : Nat → Nat} {rest : Nat} (hm : machF ms = 0) (hn : needsF ns 1 1000 = 0) (h12 : ns.length ≤ 12) (hr : rest < 4096) (hfx : ∀ k, fx k < 4096) :
  SpecH Tryz.prog 173 [.at_ 3 (balC ms ns (.slice (some ⟨gf, 0, none⟩) ms.length ms.length)), avI (rest : Int)] [fixB gf ms.length fx] (fun y hp' => y = avI (belS ms ns fx ms.length rest) ∧ hp' = [fixB gf ms.length fx]) := by
 have hMn := MnOk.mk' hm hn
 have hlen := machF_len hm
 refine SpecH.of_VC Tryz.func173 rfl Tryz.ntmps173 (Nle rfl) fun w A hB => ?_
 have hnew : True := trivial
 refine VC.sr ?_
 refine VO.ma rfl rfl rfl rfl ?_
 refine VO.nil ?_
 refine VC.sr ?_
 refine VO.mv rfl rfl rfl rfl ?_
 refine VO.val rfl rfl (OpV.add rfl rfl rfl (by unfold fits; omega)) ?_
 refine VO.op rfl (OpE.make rfl hB rfl Tryz.underlying22 (infoOf Tryz.t3 1 (by kernel_rfl) rfl rfl) (by decide) rfl rfl (n := rest + 1) (by omega) (by omega) (by omega) (made_ints _) ?_)
 intro g15
 rw [intsL_len, List.length_replicate]
 refine VO.ma rfl rfl rfl rfl ?_
 refine VO.nil ?_
 refine VC.seq ?_
 refine VC.sr ?_
 refine VO.mv rfl rfl rfl rfl ?_
 refine VO.val rfl rfl (OpV.len_v rfl Tryz.underlying22 rfl) ?_
 refine VO.mv rfl rfl rfl rfl ?_
 refine VO.nil ?_
 refine VC.block ?_
 refine VC.loopK [(0, _), (1, _), (5, _), (17, _)] ⟨rfl, rfl, rfl, rfl, trivial⟩ ({z : List Int × Nat // z.2 ≤ rest + 1 ∧ z.1.length = rest + 1 ∧ ∀ j, j < z.2 → z.1.getD j 0 = neverC}) (fun (iZ : {z : List Int × Nat // z.2 ≤ rest + 1 ∧ z.1.length = rest + 1 ∧ ∀ j, j < z.2 → z.1.getD j 0 = neverC}) => match iZ with | ⟨⟨bl, q⟩, hq, hbl, hbn⟩ => [(18, avI (q : Int))]) (fun (iZ : {z : List Int × Nat // z.2 ≤ rest + 1 ∧ z.1.length = rest + 1 ∧ ∀ j, j < z.2 → z.1.getD j 0 = neverC}) => match iZ with | ⟨⟨bl, q⟩, hq, hbl, hbn⟩ => [fixB gf ms.length fx, .box g15 ⟨intsL bl, 3, rest + 1⟩]) (fun (iZ : {z : List Int × Nat // z.2 ≤ rest + 1 ∧ z.1.length = rest + 1 ∧ ∀ j, j < z.2 → z.1.getD j 0 = neverC}) => match iZ with | ⟨⟨bl, q⟩, hq, hbl, hbn⟩ => 0) (fun (iZ : {z : List Int × Nat // z.2 ≤ rest + 1 ∧ z.1.length = rest + 1 ∧ ∀ j, j < z.2 → z.1.getD j 0 = neverC}) => match iZ with | ⟨⟨bl, q⟩, hq, hbl, hbn⟩ => rest + 1 - q) ⟨(List.replicate (rest + 1) 0, 0), Nat.zero_le _, rep_len _ _, fun j hj => absurd hj (Nat.not_lt_zero j)⟩ (Le.mk hB [0, 1] ⟨rfl, rfl, rfl, rfl, rfl, trivial⟩ rfl rfl (Nat.le_refl _)) ?_
 rintro ⟨⟨bl, q⟩, hq, hbl, hbn⟩
 show VC _ _ _ _ ⟨[(18, avI (q : Int))] ++ [(0, _), (1, _), (5, _), (17, _)], [fixB gf ms.length fx, .box g15 ⟨intsL bl, 3, rest + 1⟩], 0⟩
 simp only at hq hbl hbn
 refine VC.sr ?_
 refine VO.val rfl rfl (OpV.lss rfl rfl rfl) ?_
 refine VO.nil ?_
 refine VC.seq ?_
 refine VC.cond rfl (fun aH1b => ?_) (fun aH1b => ?_)
 ·have aH1 := aH1b
  try simp only [qqT, qqF, qqN, qqM, qqL, qqE] at aH1
  refine VC.skip ?_
  refine VC.seq ?_
  refine VC.block ?_
  refine VC.sr ?_
  refine VO.mv rfl rfl rfl rfl ?_
  refine VO.ma rfl rfl rfl rfl ?_
  refine VO.nil ?_
  refine VC.region ?_
  refine VO.mv rfl rfl rfl rfl ?_
  refine VO.mv rfl rfl rfl rfl ?_
  refine VO.val rfl rfl (OpV.indexAddr_o rfl Tryz.underlying22 Tryz.sizeOf3 rfl rfl rfl (by omega)) ?_
  refine VO.op rfl (OpE.store1 (i := 1) rfl hB rfl Tryz.sizeOf3 rfl rfl rfl rfl rfl rfl (by rw [intsL_len]; omega) (intsL_set _ _ _) trivial ?_)
  refine VO.nil ?_
  refine VC.region ?_
  refine VO.val rfl rfl (OpV.add rfl rfl rfl (by unfold fits; omega)) ?_
  refine VO.mv rfl rfl rfl rfl ?_
  refine VO.nil ?_
  exact Exists.intro (⟨(bl.set q neverC, q + 1), by show q + 1 ≤ _; omega, by show (bl.set q neverC).length = _; rw [List.length_set]; exact hbl, fun j hj => by show (bl.set q neverC).getD j 0 = _; rw [getDs (by omega)]; by_cases e : j = q; (rw [if_pos e]); (rw [if_neg e]; exact hbn j (by have : j < q + 1 := hj; omega))⟩) (And.intro (Le.mk hB [0, 1] ⟨rfl, rfl, rfl, rfl, rfl, trivial⟩ rfl rfl (Nat.le_refl _)) (by first | omega | (show _ < _; omega) | (simp only []; omega)))
 ·have aH1 := aH1b
  try simp only [qqT, qqF, qqN, qqM, qqL, qqE] at aH1
  refine VC.exit ?_
  refine VC.sr ?_
  refine VO.mv rfl rfl rfl rfl ?_
  refine VO.val rfl rfl (OpV.indexAddr_o rfl Tryz.underlying22 Tryz.sizeOf3 rfl rfl (Int.toNat_of_nonneg (by omega)).symm (by omega)) ?_
  refine VO.op rfl (OpE.store1 (i := 1) rfl hB rfl Tryz.sizeOf3 rfl rfl rfl rfl rfl rfl (by rw [intsL_len]; omega) (intsL_set _ _ _) trivial ?_)
  refine VO.nil ?_
  refine VC.seq ?_
  refine VC.sr ?_
  refine VO.mv rfl rfl rfl rfl ?_
  refine VO.val rfl rfl (OpV.nilCheck_at rfl rfl) ?_
  refine VO.val rfl rfl (OpV.fieldAddr_atO 0 rfl Tryz.underlying221 rfl rfl Tryz.sizeOf102 rfl rfl) ?_
  refine VO.val rfl rfl (OpV.load_at rfl hB OutW.no Tryz.isAgg102 rfl rfl) ?_
  refine VO.val rfl rfl (OpV.len_im rfl Tryz.underlying102 rfl) ?_
  refine VO.mv rfl rfl rfl rfl ?_
  refine VO.nil ?_
  refine VC.block ?_
  refine VC.loopK [(0, _), (1, _), (31, _)] ⟨rfl, rfl, rfl, trivial⟩ ({z : Nat × List Int × Nat // z.2.2 ≤ ms.length ∧ SetI rest (belS ms ns fx z.2.2) z.2.1}) (fun (iZ : {z : Nat × List Int × Nat // z.2.2 ≤ ms.length ∧ SetI rest (belS ms ns fx z.2.2) z.2.1}) => match iZ with | ⟨⟨gb, bl, k⟩, hk, hS⟩ => [(5, .v (.slice (some ⟨gb, 0, none⟩) (rest + 1) (rest + 1))), (32, avI (k : Int))]) (fun (iZ : {z : Nat × List Int × Nat // z.2.2 ≤ ms.length ∧ SetI rest (belS ms ns fx z.2.2) z.2.1}) => match iZ with | ⟨⟨gb, bl, k⟩, hk, hS⟩ => [fixB gf ms.length fx, .box gb ⟨intsL bl, 3, rest + 1⟩]) (fun (iZ : {z : Nat × List Int × Nat // z.2.2 ≤ ms.length ∧ SetI rest (belS ms ns fx z.2.2) z.2.1}) => match iZ with | ⟨⟨gb, bl, k⟩, hk, hS⟩ => 0) (fun (iZ : {z : Nat × List Int × Nat // z.2.2 ≤ ms.length ∧ SetI rest (belS ms ns fx z.2.2) z.2.1}) => match iZ with | ⟨⟨gb, bl, k⟩, hk, hS⟩ => ms.length - k) ⟨(g15, bl.set 0 0, 0), Nat.zero_le _, belS_zero' hbl (fun j hj => hbn j (by omega))⟩ (Le.mk hB [0, 1] ⟨rfl, rfl, rfl, rfl, rfl, trivial⟩ rfl rfl (Nat.le_refl _)) ?_
  rintro ⟨⟨gb, bl, k⟩, hk, hS⟩
  show VC _ _ _ _ ⟨[(5, .v (.slice (some ⟨gb, 0, none⟩) (rest + 1) (rest + 1))), (32, avI (k : Int))] ++ [(0, _), (1, _), (31, _)], [fixB gf ms.length fx, .box gb ⟨intsL bl, 3, rest + 1⟩], 0⟩
  simp only at hk hS
  have hbl := hS.len
  refine VC.sr ?_
  refine VO.val rfl rfl (OpV.lss rfl rfl rfl) ?_
  refine VO.nil ?_
  refine VC.seq ?_
  refine VC.cond rfl (fun aH2b => ?_) (fun aH2b => ?_)
  ·have aH2 := aH2b
   try simp only [qqT, qqF, qqN, qqM, qqL, qqE] at aH2
   refine VC.skip ?_
   refine VC.seq ?_
   refine VC.block ?_
   refine VC.sr ?_
   refine VO.mv rfl rfl rfl rfl ?_
   refine VO.ma rfl rfl rfl rfl ?_
   refine VO.nil ?_
   refine VC.sr ?_
   refine VO.mv rfl rfl rfl rfl ?_
   refine VO.val rfl rfl (OpV.add rfl rfl rfl (by unfold fits; omega)) ?_
   refine VO.op rfl (OpE.make rfl hB rfl Tryz.underlying22 (infoOf Tryz.t3 1 (by kernel_rfl) rfl rfl) (by decide) rfl rfl (n := rest + 1) (by omega) (by omega) (by omega) (made_ints _) ?_)
   intro g37
   rw [intsL_len, List.length_replicate]
   refine VO.ma rfl rfl rfl rfl ?_
   refine VO.nil ?_
   refine VC.seq ?_
   refine VC.sr ?_
   refine VO.mv rfl rfl rfl rfl ?_
   refine VO.ma rfl rfl rfl rfl ?_
   refine VO.nil ?_
   refine VC.block ?_
   refine VC.loopK [(0, _), (1, _), (5, _), (7, _), (8, _), (31, _), (32, _)] ⟨rfl, rfl, rfl, rfl, rfl, rfl, rfl, trivial⟩ ({z : List Int × Nat // SetG rest z.2 (alnS ms ns fx k) z.1}) (fun (iZ : {z : List Int × Nat // SetG rest z.2 (alnS ms ns fx k) z.1}) => match iZ with | ⟨⟨al, cur⟩, hG⟩ => [(9, avI (cur : Int))]) (fun (iZ : {z : List Int × Nat // SetG rest z.2 (alnS ms ns fx k) z.1}) => match iZ with | ⟨⟨al, cur⟩, hG⟩ => [fixB gf ms.length fx, .box gb ⟨intsL bl, 3, rest + 1⟩, .box g37 ⟨intsL al, 3, rest + 1⟩]) (fun (iZ : {z : List Int × Nat // SetG rest z.2 (alnS ms ns fx k) z.1}) => match iZ with | ⟨⟨al, cur⟩, hG⟩ => 0) (fun (iZ : {z : List Int × Nat // SetG rest z.2 (alnS ms ns fx k) z.1}) => match iZ with | ⟨⟨al, cur⟩, hG⟩ => cur) ⟨(List.replicate (rest + 1) 0, rest), SetG.start (rep_len _ _)⟩ (Le.mk hB [0, 1, 2] ⟨rfl, rfl, rfl, rfl, rfl, rfl, rfl, rfl, trivial⟩ rfl rfl (Nat.le_refl _)) ?_
   rintro ⟨⟨al, cur⟩, hG⟩
   show VC _ _ _ _ ⟨[(9, avI (cur : Int))] ++ [(0, _), (1, _), (5, _), (7, _), (8, _), (31, _), (32, _)], [fixB gf ms.length fx, .box gb ⟨intsL bl, 3, rest + 1⟩, .box g37 ⟨intsL al, 3, rest + 1⟩], 0⟩
   simp only at hG
   have hcl := hG.lt
   have hcl2 := hG.len
   refine VC.seq ?_
   refine VC.block ?_
   refine VC.sr ?_
   refine VO.mv rfl rfl rfl rfl ?_
   refine VO.mv rfl rfl rfl rfl ?_
   refine VO.mv rfl rfl rfl rfl ?_
   refine VO.mv rfl rfl rfl rfl ?_
   refine VO.mv rfl rfl rfl rfl ?_
   refine VO.val rfl rfl (OpV.nilCheck_at rfl rfl) ?_
   refine VO.val rfl rfl (OpV.fieldAddr_atO 2 rfl Tryz.underlying221 rfl rfl Tryz.sizeOf22 rfl rfl) ?_
   refine VO.val rfl rfl (OpV.load_at rfl hB OutW.no Tryz.isAgg22 rfl rfl) ?_
   refine VO.mv rfl rfl rfl rfl ?_
   refine VO.val rfl rfl (OpV.indexAddr_o rfl Tryz.underlying22 Tryz.sizeOf3 rfl rfl rfl (by omega)) ?_
   refine VO.val rfl rfl (OpV.load_own (i := 0) rfl hB Tryz.isAgg3 rfl rfl (intsT_get (by omega)) (fun h => h)) ?_
   refine VO.mv rfl rfl rfl rfl ?_
   refine VO.val rfl rfl (OpV.bor rfl rfl rfl (Nat.lt_trans (hfx k) (by decide)) (by omega)) ?_
   refine VO.op rfl (OpE.call rfl hB rfl Tryz.call277 rfl (SpecN.spec (bal_cycle hm hn h12 (by omega) (by have := or_lt12 (hfx k) (show cur < 4096 by omega); omega))) ?_)
   rintro _ rfl
   refine VO.val rfl rfl (OpV.indexAddr_o rfl Tryz.underlying22 Tryz.sizeOf3 rfl rfl rfl (by omega)) ?_
   refine VO.op rfl (OpE.store1 (i := 2) rfl hB rfl Tryz.sizeOf3 rfl rfl rfl rfl rfl rfl (by rw [intsL_len]; omega) (intsL_set _ _ _) trivial ?_)
   refine VO.nil ?_
   refine VC.sr ?_
   refine VO.mv rfl rfl rfl rfl ?_
   refine VO.val rfl rfl (OpV.eql rfl rfl rfl) ?_
   refine VO.nil ?_
   refine VC.cond rfl (fun h2b => ?_) (fun h2b => ?_)
   ·have h2 := h2b
    try simp only [qqT, qqF, qqN, qqM, qqL, qqE] at h2
    obtain ⟨al2, hA2, hA⟩ : ∃ al2, al.set cur (alnS ms ns fx k cur) = al2 ∧ SetI rest (alnS ms ns fx k) al2 := ⟨_, rfl, hG.last (by omega) rfl⟩
    refine VC.le _ (Le.pickH (hp := [fixB gf ms.length fx, .box gb ⟨intsL bl, 3, rest + 1⟩, .box g37 ⟨intsL al2, 3, rest + 1⟩]) [0, 1, 2] rfl (by rw [← hA2]; rfl)) ?_
    have hal := hA.len
    refine VC.exit ?_
    refine VC.sr ?_
    refine VO.mv rfl rfl rfl rfl ?_
    refine VO.val rfl rfl (OpV.add rfl rfl rfl (by unfold fits; omega)) ?_
    refine VO.op rfl (OpE.make rfl hB rfl Tryz.underlying22 (infoOf Tryz.t3 1 (by kernel_rfl) rfl rfl) (by decide) rfl rfl (n := rest + 1) (by omega) (by omega) (by omega) (made_ints _) ?_)
    intro g62
    rw [intsL_len, List.length_replicate]
    refine VO.ma rfl rfl rfl rfl ?_
    refine VO.nil ?_
    refine VC.seq ?_
    refine VC.sr ?_
    refine VO.mv rfl rfl rfl rfl ?_
    refine VO.ma rfl rfl rfl rfl ?_
    refine VO.nil ?_
    refine VC.block ?_
    refine VC.loopK [(0, _), (1, _), (5, _), (8, _), (10, _), (31, _), (32, _)] ⟨rfl, rfl, rfl, rfl, rfl, rfl, rfl, trivial⟩ ({z : List Int × Nat // SetG rest z.2 (belS ms ns fx (k + 1)) z.1}) (fun (iZ : {z : List Int × Nat // SetG rest z.2 (belS ms ns fx (k + 1)) z.1}) => match iZ with | ⟨⟨af, s⟩, hF⟩ => [(11, avI (s : Int))]) (fun (iZ : {z : List Int × Nat // SetG rest z.2 (belS ms ns fx (k + 1)) z.1}) => match iZ with | ⟨⟨af, s⟩, hF⟩ => [fixB gf ms.length fx, .box gb ⟨intsL bl, 3, rest + 1⟩, .box g37 ⟨intsL al2, 3, rest + 1⟩, .box g62 ⟨intsL af, 3, rest + 1⟩]) (fun (iZ : {z : List Int × Nat // SetG rest z.2 (belS ms ns fx (k + 1)) z.1}) => match iZ with | ⟨⟨af, s⟩, hF⟩ => 0) (fun (iZ : {z : List Int × Nat // SetG rest z.2 (belS ms ns fx (k + 1)) z.1}) => match iZ with | ⟨⟨af, s⟩, hF⟩ => s) ⟨(List.replicate (rest + 1) 0, rest), SetG.start (rep_len _ _)⟩ (Le.mk hB [0, 1, 2, 3] ⟨rfl, rfl, rfl, rfl, rfl, rfl, rfl, rfl, trivial⟩ rfl rfl (Nat.le_refl _)) ?_
    rintro ⟨⟨af, s⟩, hF⟩
    show VC _ _ _ _ ⟨[(11, avI (s : Int))] ++ [(0, _), (1, _), (5, _), (8, _), (10, _), (31, _), (32, _)], [fixB gf ms.length fx, .box gb ⟨intsL bl, 3, rest + 1⟩, .box g37 ⟨intsL al2, 3, rest + 1⟩, .box g62 ⟨intsL af, 3, rest + 1⟩], 0⟩
    simp only at hF
    have hsl := hF.lt
    have hsl2 := hF.len
    refine VC.seq ?_
    refine VC.block ?_
    refine VC.sr ?_
    refine VO.mv rfl rfl rfl rfl ?_
    refine VO.mv rfl rfl rfl rfl ?_
    refine VO.val rfl rfl (OpV.indexAddr_o rfl Tryz.underlying22 Tryz.sizeOf3 rfl rfl rfl (by omega)) ?_
    refine VO.op rfl (OpE.store1 (i := 3) rfl hB rfl Tryz.sizeOf3 rfl rfl rfl rfl rfl rfl (by rw [intsL_len]; omega) (intsL_set _ _ _) trivial ?_)
    refine VO.nil ?_
    refine VC.seq ?_
    refine VC.sr ?_
    refine VO.mv rfl rfl rfl rfl ?_
    refine VO.ma rfl rfl rfl rfl ?_
    refine VO.nil ?_
    refine VC.block ?_
    refine VC.loopK [(0, _), (1, _), (5, _), (8, _), (10, _), (11, _), (31, _), (32, _)] ⟨rfl, rfl, rfl, rfl, rfl, rfl, rfl, rfl, trivial⟩ ({z : Int × Nat // MinI (mxBA ms ns fx k s) s z.2 z.1}) (fun (iZ : {z : Int × Nat // MinI (mxBA ms ns fx k s) s z.2 z.1}) => match iZ with | ⟨⟨v, c⟩, hV⟩ => [(12, avI (c : Int))]) (fun (iZ : {z : Int × Nat // MinI (mxBA ms ns fx k s) s z.2 z.1}) => match iZ with | ⟨⟨v, c⟩, hV⟩ => [fixB gf ms.length fx, .box gb ⟨intsL bl, 3, rest + 1⟩, .box g37 ⟨intsL al2, 3, rest + 1⟩, .box g62 ⟨intsL (af.set s v), 3, rest + 1⟩]) (fun (iZ : {z : Int × Nat // MinI (mxBA ms ns fx k s) s z.2 z.1}) => match iZ with | ⟨⟨v, c⟩, hV⟩ => 0) (fun (iZ : {z : Int × Nat // MinI (mxBA ms ns fx k s) s z.2 z.1}) => match iZ with | ⟨⟨v, c⟩, hV⟩ => c) ⟨(neverC, s), MinI.start _ _⟩ (Le.mk hB [0, 1, 2, 3] ⟨rfl, rfl, rfl, rfl, rfl, rfl, rfl, rfl, rfl, trivial⟩ rfl rfl (Nat.le_refl _)) ?_
    rintro ⟨⟨v, c⟩, hV⟩
    show VC _ _ _ _ ⟨[(12, avI (c : Int))] ++ [(0, _), (1, _), (5, _), (8, _), (10, _), (11, _), (31, _), (32, _)], [fixB gf ms.length fx, .box gb ⟨intsL bl, 3, rest + 1⟩, .box g37 ⟨intsL al2, 3, rest + 1⟩, .box g62 ⟨intsL (af.set s v), 3, rest + 1⟩], 0⟩
    simp only at hV
    have hvs := hV.sub.le
    have hds : ndiff s c ≤ s := (SubN.diff s c).le
    have hb1 := hS.at_ (ndiff s c) (SubN.of_sub hF.sub)
    have hb2 := hA.at_ c (hV.sub.trans hF.sub)
    refine VC.seq ?_
    refine VC.block ?_
    refine VC.seq ?_
    refine VC.draw (fun j b => j = 19 ∧ b = g62) hB (by kernel_rfl) ?_
    refine VA.take (i := 0) rfl (by kernel_rfl) (by kernel_rfl) (by kernel_rfl) rfl rfl (OpV.move (.inl rfl) rfl) ?_
    refine VA.take (i := 1) rfl (by kernel_rfl) (by kernel_rfl) (by kernel_rfl) rfl rfl (OpV.move (.inl rfl) rfl) ?_
    refine VA.take (i := 2) rfl (by kernel_rfl) (by kernel_rfl) (by kernel_rfl) rfl rfl (OpV.move (.inl rfl) rfl) ?_
    refine VA.take (i := 3) rfl (by kernel_rfl) (by kernel_rfl) (by kernel_rfl) rfl rfl (OpV.move (.inl rfl) rfl) ?_
    refine VA.take (i := 4) rfl (by kernel_rfl) (by kernel_rfl) (by kernel_rfl) rfl rfl (OpV.indexAddr_o rfl Tryz.underlying22 Tryz.sizeOf3 rfl rfl rfl (by omega)) ?_
    refine VA.takeT [5, 17, 19] (i := 5) (by kernel_rfl) (by kernel_rfl) rfl (by kernel_rfl) (by kernel_rfl) (by kernel_rfl) rfl rfl (OpV.load_own (i := 3) rfl hB Tryz.isAgg3 rfl rfl (setInt_get (by omega)) (fun ⟨j, h1, h2, _⟩ => by subst h2; cases h1)) ?_
    refine VA.take (i := 6) rfl (by kernel_rfl) (by kernel_rfl) (by kernel_rfl) rfl rfl (OpV.move (.inl rfl) rfl) ?_
    refine VA.take (i := 7) rfl (by kernel_rfl) (by kernel_rfl) (by kernel_rfl) rfl rfl (OpV.move (.inl rfl) rfl) ?_
    refine VA.take (i := 8) rfl (by kernel_rfl) (by kernel_rfl) (by kernel_rfl) rfl rfl (OpV.move (.inl rfl) rfl) ?_
    refine VA.take (i := 9) rfl (by kernel_rfl) (by kernel_rfl) (by kernel_rfl) rfl rfl (OpV.bdiff (a := s) (b := c) rfl rfl rfl (by omega) (by omega)) ?_
    refine VA.take (i := 10) rfl (by kernel_rfl) (by kernel_rfl) (by kernel_rfl) rfl rfl (OpV.indexAddr_o rfl Tryz.underlying22 Tryz.sizeOf3 rfl rfl rfl (by omega)) ?_
    refine VA.takeT [11, 16, 17, 19] (i := 11) (by kernel_rfl) (by kernel_rfl) rfl (by kernel_rfl) (by kernel_rfl) (by kernel_rfl) rfl rfl (OpV.load_own (i := 1) rfl hB Tryz.isAgg3 rfl rfl (intsL_getV (by omega) hb1) (fun ⟨j, h1, h2, _⟩ => by subst h2; cases h1)) ?_
    refine VA.take (i := 12) rfl (by kernel_rfl) (by kernel_rfl) (by kernel_rfl) rfl rfl (OpV.move (.inl rfl) rfl) ?_
    refine VA.take (i := 13) rfl (by kernel_rfl) (by kernel_rfl) (by kernel_rfl) rfl rfl (OpV.move (.inl rfl) rfl) ?_
    refine VA.take (i := 14) rfl (by kernel_rfl) (by kernel_rfl) (by kernel_rfl) rfl rfl (OpV.indexAddr_o rfl Tryz.underlying22 Tryz.sizeOf3 rfl rfl rfl (by omega)) ?_
    refine VA.takeT [15, 16, 17, 19] (i := 15) (by kernel_rfl) (by kernel_rfl) rfl (by kernel_rfl) (by kernel_rfl) (by kernel_rfl) rfl rfl (OpV.load_own (i := 2) rfl hB Tryz.isAgg3 rfl rfl (intsL_getV (by omega) hb2) (fun ⟨j, h1, h2, _⟩ => by subst h2; cases h1)) ?_
    refine VA.take (i := 16) rfl (by kernel_rfl) (by kernel_rfl) (by kernel_rfl) rfl rfl (OpV.max2 rfl rfl rfl) ?_
    refine VA.take (i := 17) rfl (by kernel_rfl) (by kernel_rfl) (by kernel_rfl) rfl rfl (OpV.min2 rfl rfl rfl) ?_
    refine VA.take (i := 18) rfl (by kernel_rfl) (by kernel_rfl) (by kernel_rfl) rfl rfl (OpV.indexAddr_o rfl Tryz.underlying22 Tryz.sizeOf3 rfl rfl rfl (by omega)) ?_
    refine VA.all (rs := [19]) (by kernel_rfl) (by decide) ?_
    refine ⟨⟨_, rfl, .inl rfl, ?_⟩, trivial⟩
    refine OpE.store1 (i := 3) rfl hB rfl Tryz.sizeOf3 rfl rfl rfl rfl rfl rfl (by rw [intsL_len, List.length_set]; omega) (setInt_set _ _ _ _) (by first | exact ⟨rfl, rfl⟩ | exact .inl ⟨rfl, rfl⟩ | exact .inr ⟨rfl, rfl⟩ | exact ⟨rfl, trivial⟩ | exact .inl ⟨rfl, trivial⟩ | exact .inr ⟨rfl, trivial⟩ | exact ⟨by decide, rfl⟩) ?_
    refine VA.done (by kernel_rfl) ?_
    refine VC.sr ?_
    refine VO.mv rfl rfl rfl rfl ?_
    refine VO.val rfl rfl (OpV.eql rfl rfl rfl) ?_
    refine VO.nil ?_
    refine VC.cond rfl (fun h3b => ?_) (fun h3b => ?_)
    ·have h3 := h3b
     try simp only [qqT, qqF, qqN, qqM, qqL, qqE] at h3
     have hfin : min v (mxBA ms ns fx k s c) = belS ms ns fx (k + 1) s := hV.last (mxBA_nn hMn k s) (by omega)
     refine VC.le _ (Le.pickH (hp := [fixB gf ms.length fx, .box gb ⟨intsL bl, 3, rest + 1⟩, .box g37 ⟨intsL al2, 3, rest + 1⟩, .box g62 ⟨intsL (af.set s (belS ms ns fx (k + 1) s)), 3, rest + 1⟩]) [0, 1, 2, 3] rfl (by rw [← hfin]; rfl)) ?_
     refine VC.exit ?_
     refine VC.sr ?_
     refine VO.mv rfl rfl rfl rfl ?_
     refine VO.val rfl rfl (OpV.eql rfl rfl rfl) ?_
     refine VO.nil ?_
     refine VC.cond rfl (fun h4b => ?_) (fun h4b => ?_)
     ·have h4 := h4b
      try simp only [qqT, qqF, qqN, qqM, qqL, qqE] at h4
      obtain ⟨af2, hF1, hF2⟩ : ∃ af2, af.set s (belS ms ns fx (k + 1) s) = af2 ∧ SetI rest (belS ms ns fx (k + 1)) af2 := ⟨_, rfl, hF.last (by omega) rfl⟩
      refine VC.le _ (Le.pickH (hp := [fixB gf ms.length fx, .box gb ⟨intsL bl, 3, rest + 1⟩, .box g37 ⟨intsL al2, 3, rest + 1⟩, .box g62 ⟨intsL af2, 3, rest + 1⟩]) [0, 1, 2, 3] rfl (by rw [← hF1]; rfl)) ?_
      refine VC.exit ?_
      refine VC.region ?_
      refine VO.mv rfl rfl rfl rfl ?_
      refine VO.ma rfl rfl rfl rfl ?_
      refine VO.nil ?_
      refine VC.region ?_
      refine VO.val rfl rfl (OpV.add rfl rfl rfl (by unfold fits; omega)) ?_
      refine VO.mv rfl rfl rfl rfl ?_
      refine VO.nil ?_
      exact Exists.intro (⟨(g62, af2, k + 1), by show k + 1 ≤ _; omega, hF2⟩) (And.intro (Le.mk hB [0, 3] ⟨rfl, rfl, rfl, rfl, rfl, trivial⟩ rfl rfl (Nat.le_refl _)) (by first | omega | (show _ < _; omega) | (simp only []; omega)))
     ·have h4 := h4b
      try simp only [qqT, qqF, qqN, qqM, qqL, qqE] at h4
      refine VC.skip ?_
      refine VC.region ?_
      refine VO.mv rfl rfl rfl rfl ?_
      refine VO.val rfl rfl (OpV.sub rfl rfl rfl (by unfold fits; omega)) ?_
      refine VO.le _ (Le.recast (t := 65) (y := avI ((s - 1 : Nat) : Int)) rfl (fun w Z u h => by rw [show ((s - 1 : Nat) : Int) = (s : Int) - 1 by omega]; exact h)) ?_
      refine VO.mv rfl rfl rfl rfl ?_
      refine VO.val rfl rfl (OpV.band (a := s - 1) (b := rest) rfl rfl rfl (by omega) (by omega)) ?_
      refine VO.ma rfl rfl rfl rfl ?_
      refine VO.nil ?_
      have hdec : (s - 1) &&& rest < s := sub_dec (by omega)
      exact Exists.intro (⟨(af.set s (belS ms ns fx (k + 1) s), (s - 1) &&& rest), hF.next (by omega) rfl⟩) (And.intro (Le.mk hB [0, 1, 2, 3] ⟨rfl, rfl, rfl, rfl, rfl, rfl, rfl, rfl, trivial⟩ rfl rfl (Nat.le_refl _)) (by first | omega | (show _ < _; omega) | (simp only []; omega)))
    ·have h3 := h3b
     try simp only [qqT, qqF, qqN, qqM, qqL, qqE] at h3
     refine VC.skip ?_
     refine VC.region ?_
     refine VO.mv rfl rfl rfl rfl ?_
     refine VO.val rfl rfl (OpV.sub rfl rfl rfl (by unfold fits; omega)) ?_
     refine VO.le _ (Le.recast (t := 73) (y := avI ((c - 1 : Nat) : Int)) rfl (fun w Z u h => by rw [show ((c - 1 : Nat) : Int) = (c : Int) - 1 by omega]; exact h)) ?_
     refine VO.mv rfl rfl rfl rfl ?_
     refine VO.val rfl rfl (OpV.band (a := c - 1) (b := s) rfl rfl rfl (by omega) (by omega)) ?_
     refine VO.ma rfl rfl rfl rfl ?_
     refine VO.nil ?_
     have hdec : (c - 1) &&& s < c := sub_dec (by omega)
     exact Exists.intro (⟨(min v (mxBA ms ns fx k s c), (c - 1) &&& s), hV.next (mxBA_nn hMn k s c) (by omega)⟩) (And.intro (Le.mk hB [0, 1, 2, 3] ⟨rfl, rfl, rfl, rfl, rfl, rfl, rfl, rfl, rfl, trivial⟩ rfl rfl (Nat.le_refl _)) (by first | omega | (show _ < _; omega) | (simp only []; omega)))
   ·have h2 := h2b
    try simp only [qqT, qqF, qqN, qqM, qqL, qqE] at h2
    refine VC.skip ?_
    refine VC.region ?_
    refine VO.mv rfl rfl rfl rfl ?_
    refine VO.val rfl rfl (OpV.sub rfl rfl rfl (by unfold fits; omega)) ?_
    refine VO.le _ (Le.recast (t := 40) (y := avI ((cur - 1 : Nat) : Int)) rfl (fun w Z u h => by rw [show ((cur - 1 : Nat) : Int) = (cur : Int) - 1 by omega]; exact h)) ?_
    refine VO.mv rfl rfl rfl rfl ?_
    refine VO.val rfl rfl (OpV.band (a := cur - 1) (b := rest) rfl rfl rfl (by omega) (by omega)) ?_
    refine VO.ma rfl rfl rfl rfl ?_
    refine VO.nil ?_
    have hdec : (cur - 1) &&& rest < cur := sub_dec (by omega)
    exact Exists.intro (⟨(al.set cur (alnS ms ns fx k cur), (cur - 1) &&& rest), hG.next (by omega) rfl⟩) (And.intro (Le.mk hB [0, 1, 2] ⟨rfl, rfl, rfl, rfl, rfl, rfl, rfl, rfl, trivial⟩ rfl rfl (Nat.le_refl _)) (by first | omega | (show _ < _; omega) | (simp only []; omega)))
  ·have aH2 := aH2b
   try simp only [qqT, qqF, qqN, qqM, qqL, qqE] at aH2
   obtain rfl : k = ms.length := by omega
   have hlast := hS.at_ rest (SubN.refl rest)
   refine VC.exit ?_
   refine VC.sr ?_
   refine VO.mv rfl rfl rfl rfl ?_
   refine VO.mv rfl rfl rfl rfl ?_
   refine VO.val rfl rfl (OpV.indexAddr_o rfl Tryz.underlying22 Tryz.sizeOf3 rfl rfl rfl (by omega)) ?_
   refine VO.val rfl rfl (OpV.load_own (i := 1) rfl hB Tryz.isAgg3 rfl rfl (intsL_getV (by omega) hlast) (fun h => h)) ?_
   refine VO.ma rfl rfl rfl rfl ?_
   refine VO.nil ?_
   refine VC.le _ (Le.pickH [0] rfl rfl) ?_
   refine VC.ret ?_
   exact Exists.intro _ (And.intro (RetV.one Tryz.results173 (ResV.tmp rfl)) (⟨rfl, rfl⟩))
end Go.Proofs.YtaaokimiadfidaaGreatDoor
namespace Go.Proofs.YtaaokimiadfidaaGreatDoor
open Go.RowKit
set_option linter.unusedVariables false
set_option linter.unusedSimpArgs false
section
variable {ms : List Mach} {ns : List NeedS} {pl G : List Int} {B : Int} {q k : Nat}
theorem bal_no (hq : q < ns.length) (hB : bstV ms ns (ns.length - q) pl = B) (hlt : B < neverC) (hn : ∀ j, j < ms.length → bstV ms ns (ns.length - q - 1) (pl ++ [(j : Int)]) ≠ B) : False := by
 obtain ⟨d, hd⟩ : ∃ d, ns.length - q = d + 1 := ⟨ns.length - q - 1, by omega⟩
 rw [hd] at hB hn
 exact grd_some (by rw [hB]; exact hlt) fun j hj => by rw [hB]; exact hn j hj
theorem bal_step (hq : q < ns.length) (hk : k < ms.length) (hB : bstV ms ns (ns.length - q) pl = B) (hG : grd ms ns (ns.length - q) pl = G) (h5 : bstV ms ns (ns.length - q - 1) (pl ++ [(k : Int)]) = B) (hn : ∀ j, j < k → bstV ms ns (ns.length - q - 1) (pl ++ [(j : Int)]) ≠ B) : bstV ms ns (ns.length - (q + 1)) (pl ++ [(k : Int)]) = B ∧ grd ms ns (ns.length - (q + 1)) (pl ++ [(k : Int)]) = G := by
 obtain ⟨d, hd⟩ : ∃ d, ns.length - q = d + 1 := ⟨ns.length - q - 1, by omega⟩
 have e : ns.length - (q + 1) = d := by omega
 rw [hd] at hB hG h5 hn
 rw [e]
 refine ⟨h5, ?_⟩
 rw [← hG, grd_next hk (by rw [hB]; exact h5) fun j hj => by rw [hB]; exact hn j hj]
theorem bel_next (hM : MnOk ms ns) (hl : pl.length = q) (hq : q < ns.length) : belS ms ns (mskP (pl ++ [(k : Int)])) ms.length (rst ns.length (q + 1)) = bstV ms ns (ns.length - q - 1) (pl ++ [(k : Int)]) := by
 have := belS_bst hM (pl := pl ++ [(k : Int)]) (d := ns.length - q - 1) (by simp; omega)
 rw [List.length_append, hl] at this
 exact this
theorem bel_first (hM : MnOk ms ns) : belS ms ns (mskP []) ms.length (rst ns.length 0) = bstV ms ns ns.length [] := belS_bst hM (pl := []) (d := ns.length) (by simp)
theorem pow12 {n : Nat} (h : n ≤ 12) : 1 ≤ 2 ^ n ∧ 2 ^ n ≤ 4096 := ⟨Nat.one_le_two_pow, show 2 ^ n ≤ 2 ^ 12 from Nat.pow_le_pow_right (by decide) h⟩
theorem msk12 (h : pl.length ≤ 12) (k : Nat) : mskP pl k < 4096 := Nat.lt_of_lt_of_le (mskP_lt pl k) (pow12 h).2
theorem rst12 {n : Nat} (h : n ≤ 12) (i : Nat) : rst n i < 4096 := Nat.lt_of_lt_of_le (rst_lt n i) (pow12 h).2
theorem bal_1 (h : faultF ms ns ≠ 0) : balE ms ns = faultF ms ns ∧ balOk ms ns = false ∧ balL ms ns = [] ∧ balV ms ns = 0 := by
 have e : balE ms ns = faultF ms ns := by rw [balE, if_pos h]
 have e2 : balOk ms ns = false := by rw [balOk, e, decide_eq_false h]; rfl
 exact ⟨e, e2, by rw [balL, e2]; rfl, by rw [balV, e2]; rfl⟩
theorem bal_2 (h : faultF ms ns = 0) (h2 : 12 < ns.length) : balE ms ns = 2 ∧ balOk ms ns = false ∧ balL ms ns = [] ∧ balV ms ns = 0 := by
 have e : balE ms ns = 2 := by rw [balE, if_neg (by omega), if_pos h2]
 have e2 : balOk ms ns = false := by rw [balOk, e]; rfl
 exact ⟨e, e2, by rw [balL, e2]; rfl, by rw [balV, e2]; rfl⟩
theorem bal_3 (h : faultF ms ns = 0) (h2 : ns.length ≤ 12) (h3 : ¬ bstV ms ns ns.length [] < neverC) : balE ms ns = 0 ∧ balOk ms ns = false ∧ balL ms ns = [] ∧ balV ms ns = 0 := by
 have e : balE ms ns = 0 := by rw [balE, if_neg (by omega), if_neg (by omega)]
 have e2 : balOk ms ns = false := by rw [balOk, e, decide_eq_false h3]; rfl
 exact ⟨e, e2, by rw [balL, e2]; rfl, by rw [balV, e2]; rfl⟩
theorem bal_4 (h : faultF ms ns = 0) (h2 : ns.length ≤ 12) (h3 : bstV ms ns ns.length [] < neverC) : balE ms ns = 0 ∧ balOk ms ns = true ∧ balL ms ns = grd ms ns ns.length [] ∧ balV ms ns = bstV ms ns ns.length [] := by
 have e : balE ms ns = 0 := by rw [balE, if_neg (by omega), if_neg (by omega)]
 have e2 : balOk ms ns = true := by rw [balOk, e, decide_eq_true h3]; rfl
 exact ⟨e, e2, by rw [balL, e2]; rfl, by rw [balV, e2]; rfl⟩
end
theorem mskT_yes {pl : List Int} {k q n : Nat} (hl : pl.length = q) : (tabI n fun j => ((mskP pl j : Nat) : Int)).set k ((mskP pl k ||| 2 ^ q : Nat) : Int) = tabI n fun j => ((mskP (pl ++ [(k : Int)]) j : Nat) : Int) :=
 tabI_set' (by rw [mskP_snoc, if_pos rfl, hl]) fun j _ hne => by rw [mskP_snoc, if_neg hne]
theorem mskT_no {pl : List Int} {k q n : Nat} (hl : pl.length = q) : (tabI n fun j => ((mskP (pl ++ [(k : Int)]) j : Nat) : Int)).set k ((ndiff (mskP (pl ++ [(k : Int)]) k) (2 ^ q) : Nat) : Int) = tabI n fun j => ((mskP pl j : Nat) : Int) :=
 tabI_set' (by rw [mskP_snoc, if_pos rfl, ← hl, mskP_back]) fun j _ hne => by rw [mskP_snoc, if_neg hne]
set_option maxRecDepth 100000 in
set_option maxHeartbeats 16000000 in
theorem line_Balance {ms : List Mach} {ns : List NeedS} (hm : SmallM ms) (hn : SmallN ns) :
  Spec Tryz.prog 69 [avL ms, avL ns] (fun y => y = .tup [avInts (balL ms ns), avI (balV ms ns), avB (balOk ms ns), avI (balE ms ns)]) := by
 refine Spec.of_VC Tryz.func69 rfl Tryz.ntmps69 (Nle rfl) fun w A hB => ?_
 have hnew : True := trivial
 refine VC.sr ?_
 refine VO.ma rfl rfl rfl rfl ?_
 refine VO.ma rfl rfl rfl rfl ?_
 refine VO.ma rfl rfl rfl rfl ?_
 refine VO.ma rfl rfl rfl rfl ?_
 refine VO.nil ?_
 refine VC.seq ?_
 refine VC.sr ?_
 refine VO.mv rfl rfl rfl rfl ?_
 refine VO.mv rfl rfl rfl rfl ?_
 refine VO.op rfl (OpE.call rfl hB rfl Tryz.call172 rfl (SpecN.spec (line_fault hm.l hm.k hm.c hm.s hn.l hn.k)) ?_)
 rintro _ rfl
 refine VO.ma rfl rfl rfl rfl ?_
 refine VO.nil ?_
 refine VC.sr ?_
 refine VO.mv rfl rfl rfl rfl ?_
 refine VO.val rfl rfl (OpV.neq rfl rfl rfl) ?_
 refine VO.nil ?_
 refine VC.cond rfl (fun h0b => ?_) (fun h0b => ?_)
 ·have h0 := h0b
  try simp only [qqT, qqF, qqN, qqM, qqL, qqE] at h0
  refine VC.sr ?_
  refine VO.mv rfl rfl rfl rfl ?_
  refine VO.ma rfl rfl rfl rfl ?_
  refine VO.ma rfl rfl rfl rfl ?_
  refine VO.ma rfl rfl rfl rfl ?_
  refine VO.ma rfl rfl rfl rfl ?_
  refine VO.nil ?_
  refine VC.le _ (Le.recast (t := 4) (y := avInts []) rfl (fun w Z u h => by rw [h.eq_v]; exact .nil _ _)) ?_
  refine VC.ret ?_
  exact Exists.intro _ (And.intro (RetV.four Tryz.results69 (ResV.tmp rfl) (ResV.tmp rfl) (ResV.tmp rfl) (ResV.tmp rfl)) (by rw [(bal_1 h0).1, (bal_1 h0).2.1, (bal_1 h0).2.2.1, (bal_1 h0).2.2.2]))
 ·have h0 := h0b
  try simp only [qqT, qqF, qqN, qqM, qqL, qqE] at h0
  have hf0 : faultF ms ns = 0 := by omega
  obtain ⟨hmf, hnf⟩ := faultF_0 hf0
  have hM := MnOk.mk' hmf hnf
  have hlen := machF_len hmf
  refine VC.skip ?_
  refine VC.seq ?_
  refine VC.sr ?_
  refine VO.mv rfl rfl rfl rfl ?_
  refine VO.val rfl rfl (OpV.len_im rfl Tryz.underlying77 rfl) ?_
  refine VO.val rfl rfl (OpV.gtr rfl rfl rfl) ?_
  refine VO.nil ?_
  refine VC.cond rfl (fun h1b => ?_) (fun h1b => ?_)
  ·have h1 := h1b
   try simp only [qqT, qqF, qqN, qqM, qqL, qqE] at h1
   refine VC.sr ?_
   refine VO.ma rfl rfl rfl rfl ?_
   refine VO.ma rfl rfl rfl rfl ?_
   refine VO.ma rfl rfl rfl rfl ?_
   refine VO.ma rfl rfl rfl rfl ?_
   refine VO.nil ?_
   refine VC.le _ (Le.recast (t := 4) (y := avInts []) rfl (fun w Z u h => by rw [h.eq_v]; exact .nil _ _)) ?_
   refine VC.ret ?_
   exact Exists.intro _ (And.intro (RetV.four Tryz.results69 (ResV.tmp rfl) (ResV.tmp rfl) (ResV.tmp rfl) (ResV.tmp rfl)) (by rw [(bal_2 hf0 (by omega)).1, (bal_2 hf0 (by omega)).2.1, (bal_2 hf0 (by omega)).2.2.1, (bal_2 hf0 (by omega)).2.2.2]))
  ·have h1 := h1b
   try simp only [qqT, qqF, qqN, qqM, qqL, qqE] at h1
   have h12 : ns.length ≤ 12 := by omega
   have hpw := pow12 h12
   refine VC.skip ?_
   refine VC.sr ?_
   refine VO.mv rfl rfl rfl rfl ?_
   refine VO.mv rfl rfl rfl rfl ?_
   refine VO.mv rfl rfl rfl rfl ?_
   refine VO.val rfl rfl (OpV.len_im rfl Tryz.underlying102 rfl) ?_
   refine VO.op rfl (OpE.make rfl hB rfl Tryz.underlying22 (infoOf Tryz.t3 1 (by kernel_rfl) rfl rfl) (by decide) rfl rfl (n := ms.length) rfl rfl (by omega) (made_ints _) ?_)
   intro g28
   rw [intsL_len, List.length_replicate]
   refine VO.val rfl rfl (OpV.build (pls := #[(0, 1), (1, 1), (2, 1)]) rfl Tryz.zeroValue221 Tryz.underlying221 (fun w => by kernel_rfl) rfl rfl) ?_
   refine VO.op rfl (OpE.box rfl hB rfl rfl rfl ?_)
   intro g30
   refine VO.ma rfl rfl rfl rfl ?_
   refine VO.nil ?_
   refine VC.seq ?_
   refine VC.le _ (Le.freezeAt (t := 9) (i := 1) (m := 3) (f := balC ms ns (.slice (some ⟨g28, 0, none⟩) ms.length ms.length)) rfl rfl (Nle rfl) (fun w Z u h => h.at_congr (g := balC ms ns (.slice (some ⟨g28, 0, none⟩) ms.length ms.length)) (fun j hj => by rcases j with _ | _ | _ | j <;> first | rfl | omega)) hnew hB) ?_
   refine VC.le _ (Le.pickH (hp := [fixB g28 ms.length (mskP [])]) [0] rfl (by rw [tabI_rep]; rfl)) ?_
   refine VC.region ?_
   refine VO.mv rfl rfl rfl rfl ?_
   refine VO.val rfl rfl (OpV.len_im rfl Tryz.underlying77 rfl) ?_
   refine VO.val rfl rfl (OpV.bshl1 rfl rfl rfl (by omega)) ?_
   refine VO.val rfl rfl (OpV.sub rfl rfl rfl (by unfold fits; omega)) ?_
   refine VO.le _ (Le.recast (t := 34) (y := avI ((rst ns.length 0 : Nat) : Int)) rfl (fun w Z u h => by rw [rst_zero, show ((2 ^ ns.length - 1 : Nat) : Int) = ((2 ^ ns.length : Nat) : Int) - 1 by omega]; exact h)) ?_
   refine VO.ma rfl rfl rfl rfl ?_
   refine VO.nil ?_
   refine VC.sr ?_
   refine VO.mv rfl rfl rfl rfl ?_
   refine VO.mv rfl rfl rfl rfl ?_
   refine VO.op rfl (OpE.callH0 rfl hB rfl Tryz.call173 rfl rfl (bal_longest hmf hnf h12 (rst12 h12 0) (msk12 (by simp))) (List.Perm.refl _) (fun _ _ => trivial) ?_)
   rintro _ _ ⟨rfl, rfl⟩
   obtain ⟨B, hBv⟩ : ∃ B, bstV ms ns ns.length [] = B := ⟨_, rfl⟩
   refine VO.le _ (Le.recast (t := 37) (y := avI B) rfl (fun w Z u h => by rw [← hBv, ← bel_first hM]; exact h)) ?_
   have hBi := bstV_in hM ns.length []
   rw [hBv] at hBi
   refine VO.ma rfl rfl rfl rfl ?_
   refine VO.nil ?_
   refine VC.seq ?_
   refine VC.sr ?_
   refine VO.mv rfl rfl rfl rfl ?_
   refine VO.val rfl rfl (OpV.eql rfl rfl rfl) ?_
   refine VO.nil ?_
   refine VC.cond rfl (fun h2b => ?_) (fun h2b => ?_)
   ·have h2 := h2b
    try simp only [qqT, qqF, qqN, qqM, qqL, qqE] at h2
    have h3 : ¬ bstV ms ns ns.length [] < neverC := by rw [hBv]; simp only [neverC]; omega
    refine VC.sr ?_
    refine VO.ma rfl rfl rfl rfl ?_
    refine VO.ma rfl rfl rfl rfl ?_
    refine VO.ma rfl rfl rfl rfl ?_
    refine VO.ma rfl rfl rfl rfl ?_
    refine VO.nil ?_
    refine VC.le _ (Le.recast (t := 4) (y := avInts []) rfl (fun w Z u h => by rw [h.eq_v]; exact .nil _ _)) ?_
    refine VC.ret ?_
    exact Exists.intro _ (And.intro (RetV.four Tryz.results69 (ResV.tmp rfl) (ResV.tmp rfl) (ResV.tmp rfl) (ResV.tmp rfl)) (by rw [(bal_3 hf0 h12 h3).1, (bal_3 hf0 h12 h3).2.1, (bal_3 hf0 h12 h3).2.2.1, (bal_3 hf0 h12 h3).2.2.2]))
   ·have h2 := h2b
    try simp only [qqT, qqF, qqN, qqM, qqL, qqE] at h2
    have hlt : B < neverC := by simp only [neverC] at hBi ⊢; omega
    refine VC.skip ?_
    refine VC.sr ?_
    refine VO.ma rfl rfl rfl rfl ?_
    refine VO.nil ?_
    refine VC.seq ?_
    refine VC.sr ?_
    refine VO.mv rfl rfl rfl rfl ?_
    refine VO.val rfl rfl (OpV.len_im rfl Tryz.underlying77 rfl) ?_
    refine VO.mv rfl rfl rfl rfl ?_
    refine VO.nil ?_
    refine VC.block ?_
    refine VC.le _ (Le.nilRow 1 3) ?_
    refine VC.loopK [(0, _), (9, _), (11, _), (41, _)] ⟨rfl, rfl, rfl, rfl, trivial⟩ ({z : Value × List Int × Nat // z.2.2 ≤ ns.length ∧ z.2.1.length = z.2.2 ∧ bstV ms ns (ns.length - z.2.2) z.2.1 = B ∧ grd ms ns (ns.length - z.2.2) z.2.1 = grd ms ns ns.length []}) (fun (iZ : {z : Value × List Int × Nat // z.2.2 ≤ ns.length ∧ z.2.1.length = z.2.2 ∧ bstV ms ns (ns.length - z.2.2) z.2.1 = B ∧ grd ms ns (ns.length - z.2.2) z.2.1 = grd ms ns ns.length []}) => match iZ with | ⟨⟨u, pl, q⟩, hq, hl, hpb, hpg⟩ => [(10, avI ((rst ns.length q : Nat) : Int)), (12, .v u), (42, avI (q : Int))]) (fun (iZ : {z : Value × List Int × Nat // z.2.2 ≤ ns.length ∧ z.2.1.length = z.2.2 ∧ bstV ms ns (ns.length - z.2.2) z.2.1 = B ∧ grd ms ns (ns.length - z.2.2) z.2.1 = grd ms ns ns.length []}) => match iZ with | ⟨⟨u, pl, q⟩, hq, hl, hpb, hpg⟩ => [fixB g28 ms.length (mskP pl), .row u pl.length 1 (intsL pl) 3]) (fun (iZ : {z : Value × List Int × Nat // z.2.2 ≤ ns.length ∧ z.2.1.length = z.2.2 ∧ bstV ms ns (ns.length - z.2.2) z.2.1 = B ∧ grd ms ns (ns.length - z.2.2) z.2.1 = grd ms ns ns.length []}) => match iZ with | ⟨⟨u, pl, q⟩, hq, hl, hpb, hpg⟩ => 0) (fun (iZ : {z : Value × List Int × Nat // z.2.2 ≤ ns.length ∧ z.2.1.length = z.2.2 ∧ bstV ms ns (ns.length - z.2.2) z.2.1 = B ∧ grd ms ns (ns.length - z.2.2) z.2.1 = grd ms ns ns.length []}) => match iZ with | ⟨⟨u, pl, q⟩, hq, hl, hpb, hpg⟩ => ns.length - q) ⟨(.slice none 0 0, [], 0), Nat.zero_le _, rfl, hBv, rfl⟩ (Le.mk hB [0, 1] ⟨rfl, rfl, rfl, rfl, rfl, rfl, rfl, trivial⟩ rfl rfl (Nat.le_refl _)) ?_
    rintro ⟨⟨u, pl, q⟩, hq, hl, hpb, hpg⟩
    show VC _ _ _ _ ⟨[(10, avI ((rst ns.length q : Nat) : Int)), (12, .v u), (42, avI (q : Int))] ++ [(0, _), (9, _), (11, _), (41, _)], [fixB g28 ms.length (mskP pl), .row u pl.length 1 (intsL pl) 3], 0⟩
    simp only at hq hl hpb hpg
    refine VC.sr ?_
    refine VO.val rfl rfl (OpV.lss rfl rfl rfl) ?_
    refine VO.nil ?_
    refine VC.seq ?_
    refine VC.cond rfl (fun aH1b => ?_) (fun aH1b => ?_)
    ·have aH1 := aH1b
     try simp only [qqT, qqF, qqN, qqM, qqL, qqE] at aH1
     refine VC.skip ?_
     refine VC.seq ?_
     refine VC.block ?_
     refine VC.sr ?_
     refine VO.mv rfl rfl rfl rfl ?_
     refine VO.ma rfl rfl rfl rfl ?_
     refine VO.nil ?_
     refine VC.sr ?_
     refine VO.mv rfl rfl rfl rfl ?_
     refine VO.mv rfl rfl rfl rfl ?_
     refine VO.val rfl rfl (OpV.bshl1 rfl rfl rfl (by omega)) ?_
     refine VO.val rfl rfl (OpV.bdiff (a := rst ns.length q) (b := 2 ^ q) rfl rfl rfl (by have := rst12 h12 q; omega) (by have := (pow12 (n := q) (by omega)).2; omega)) ?_
     refine VO.le _ (Le.recast (t := 48) (y := avI ((rst ns.length (q + 1) : Nat) : Int)) rfl (fun w Z u h => by rw [← rst_succ]; exact h)) ?_
     refine VO.ma rfl rfl rfl rfl ?_
     refine VO.nil ?_
     refine VC.sr ?_
     refine VO.mv rfl rfl rfl rfl ?_
     refine VO.val rfl rfl (OpV.len_im rfl Tryz.underlying102 rfl) ?_
     refine VO.mv rfl rfl rfl rfl ?_
     refine VO.nil ?_
     refine VC.block ?_
     have hq1 : q < ns.length := by omega
     have hq2 := (pow12 (n := q) (by omega)).2
     refine VC.loopK [(0, _), (9, _), (10, _), (11, _), (13, _), (41, _), (42, _), (50, _)] ⟨rfl, rfl, rfl, rfl, rfl, rfl, rfl, rfl, trivial⟩ ({k : Nat // k ≤ ms.length ∧ ∀ j, j < k → bstV ms ns (ns.length - q - 1) (pl ++ [(j : Int)]) ≠ B}) (fun (iZ : {k : Nat // k ≤ ms.length ∧ ∀ j, j < k → bstV ms ns (ns.length - q - 1) (pl ++ [(j : Int)]) ≠ B}) => match iZ with | ⟨k, hk, hns⟩ => [(12, .v u), (51, avI (k : Int))]) (fun (iZ : {k : Nat // k ≤ ms.length ∧ ∀ j, j < k → bstV ms ns (ns.length - q - 1) (pl ++ [(j : Int)]) ≠ B}) => match iZ with | ⟨k, hk, hns⟩ => [fixB g28 ms.length (mskP pl), .row u pl.length 1 (intsL pl) 3]) (fun (iZ : {k : Nat // k ≤ ms.length ∧ ∀ j, j < k → bstV ms ns (ns.length - q - 1) (pl ++ [(j : Int)]) ≠ B}) => match iZ with | ⟨k, hk, hns⟩ => 0) (fun (iZ : {k : Nat // k ≤ ms.length ∧ ∀ j, j < k → bstV ms ns (ns.length - q - 1) (pl ++ [(j : Int)]) ≠ B}) => match iZ with | ⟨k, hk, hns⟩ => ms.length - k) ⟨0, Nat.zero_le _, fun j hj => absurd hj (Nat.not_lt_zero j)⟩ (Le.mk hB [0, 1] ⟨rfl, rfl, rfl, rfl, rfl, rfl, rfl, rfl, rfl, rfl, trivial⟩ rfl rfl (Nat.le_refl _)) ?_
     rintro ⟨k, hk, hns⟩
     show VC _ _ _ _ ⟨[(12, .v u), (51, avI (k : Int))] ++ [(0, _), (9, _), (10, _), (11, _), (13, _), (41, _), (42, _), (50, _)], [fixB g28 ms.length (mskP pl), .row u pl.length 1 (intsL pl) 3], 0⟩
     refine VC.sr ?_
     refine VO.val rfl rfl (OpV.lss rfl rfl rfl) ?_
     refine VO.nil ?_
     refine VC.seq ?_
     refine VC.cond rfl (fun h4b => ?_) (fun h4b => ?_)
     ·have h4 := h4b
      try simp only [qqT, qqF, qqN, qqM, qqL, qqE] at h4
      refine VC.skip ?_
      refine VC.seq ?_
      refine VC.block ?_
      refine VC.sr ?_
      refine VO.mv rfl rfl rfl rfl ?_
      refine VO.ma rfl rfl rfl rfl ?_
      refine VO.nil ?_
      refine VC.seq ?_
      refine VC.draw (fun j b => j = 11 ∧ b = g28) hB (by kernel_rfl) ?_
      refine VA.take (i := 0) rfl (by kernel_rfl) (by kernel_rfl) (by kernel_rfl) rfl rfl (OpV.move (.inl rfl) rfl) ?_
      refine VA.take (i := 1) rfl (by kernel_rfl) (by kernel_rfl) (by kernel_rfl) rfl rfl (OpV.nilCheck_at rfl rfl) ?_
      refine VA.take (i := 2) rfl (by kernel_rfl) (by kernel_rfl) (by kernel_rfl) rfl rfl (OpV.fieldAddr_atO 2 rfl Tryz.underlying221 rfl rfl Tryz.sizeOf22 rfl rfl) ?_
      refine VA.take (i := 3) rfl (by kernel_rfl) (by kernel_rfl) (by kernel_rfl) rfl rfl (OpV.load_at rfl hB (by first | exact OutW.wi1 (k := 0) rfl rfl | exact OutW.wi1 (k := 1) rfl rfl) Tryz.isAgg22 rfl rfl) ?_
      refine VA.take (i := 4) rfl (by kernel_rfl) (by kernel_rfl) (by kernel_rfl) rfl rfl (OpV.move (.inl rfl) rfl) ?_
      refine VA.take (i := 5) rfl (by kernel_rfl) (by kernel_rfl) (by kernel_rfl) rfl rfl (OpV.indexAddr_o rfl Tryz.underlying22 Tryz.sizeOf3 rfl rfl rfl (by omega)) ?_
      refine VA.takeT [6, 9, 11] (i := 6) (by kernel_rfl) (by kernel_rfl) rfl (by kernel_rfl) (by kernel_rfl) (by kernel_rfl) rfl rfl (OpV.load_own (i := 0) rfl hB Tryz.isAgg3 rfl rfl (intsT_get (by omega)) (fun ⟨j, h1, h2, _⟩ => by subst h2; cases h1)) ?_
      refine VA.take (i := 7) rfl (by kernel_rfl) (by kernel_rfl) (by kernel_rfl) rfl rfl (OpV.move (.inl rfl) rfl) ?_
      refine VA.take (i := 8) rfl (by kernel_rfl) (by kernel_rfl) (by kernel_rfl) rfl rfl (OpV.bshl1 rfl rfl rfl (by omega)) ?_
      refine VA.take (i := 9) rfl (by kernel_rfl) (by kernel_rfl) (by kernel_rfl) rfl rfl (OpV.bor (a := mskP pl k) (b := 2 ^ q) rfl rfl rfl (by have := msk12 (pl := pl) (by omega) k; omega) (by omega)) ?_
      refine VA.take (i := 10) rfl (by kernel_rfl) (by kernel_rfl) (by kernel_rfl) rfl rfl (OpV.indexAddr_o rfl Tryz.underlying22 Tryz.sizeOf3 rfl rfl rfl (by omega)) ?_
      refine VA.all (rs := [11]) (by kernel_rfl) (by decide) ?_
      refine ⟨⟨_, rfl, .inl rfl, ?_⟩, trivial⟩
      refine OpE.store1 (i := 0) rfl hB rfl Tryz.sizeOf3 rfl rfl rfl rfl rfl rfl (by rw [intsL_len, tabI_len]; omega) ((intsL_set _ _ _).trans (congrArg intsL (mskT_yes hl))) (by first | exact ⟨rfl, rfl⟩ | exact .inl ⟨rfl, rfl⟩ | exact .inr ⟨rfl, rfl⟩ | exact ⟨rfl, trivial⟩ | exact .inl ⟨rfl, trivial⟩ | exact .inr ⟨rfl, trivial⟩ | exact ⟨by decide, rfl⟩) ?_
      refine VA.done (by kernel_rfl) ?_
      refine VC.seq ?_
      refine VC.sr ?_
      refine VO.mv rfl rfl rfl rfl ?_
      refine VO.mv rfl rfl rfl rfl ?_
      refine VO.op rfl (OpE.callH (rest := [_]) rfl hB rfl Tryz.call173 rfl rfl (bal_longest hmf hnf h12 (rst12 h12 (q + 1)) (msk12 (pl := pl ++ [(k : Int)]) (by simp; omega))) (List.Perm.refl _) (fun _ _ => trivial) ?_)
      rintro _ _ ⟨rfl, rfl⟩
      refine VO.le _ (Le.recast (t := 67) (y := avI (bstV ms ns (ns.length - q - 1) (pl ++ [(k : Int)]))) rfl (fun w Z u h => by rw [← bel_next hM hl hq1]; exact h)) ?_
      refine VO.mv rfl rfl rfl rfl ?_
      refine VO.val rfl rfl (OpV.eql rfl rfl rfl) ?_
      refine VO.nil ?_
      refine VC.cond rfl (fun h5b => ?_) (fun h5b => ?_)
      ·have h5 := h5b
       try simp only [qqT, qqF, qqN, qqM, qqL, qqE] at h5
       refine VC.sr ?_
       refine VO.mv rfl rfl rfl rfl ?_
       refine VO.mv rfl rfl rfl rfl ?_
       refine VO.op rfl (OpE.buildSlice (zc := #[.int .i64 0]) rfl hB rfl Tryz.underlying22 Tryz.sizeOf3 Tryz.zeroValue3 (by decide) (by decide) (by kernel_rfl) rfl rfl ?_)
       refine VO.op rfl (OpE.append1 (i := 1) rfl hB rfl Tryz.underlying22 (infoOf Tryz.t3 1 (by kernel_rfl) rfl rfl) rfl (by decide) (by decide) rfl rfl rfl rfl (intsL_snoc _ _) (by omega) (fun _ _ => trivial) ?_)
       intro u73
       refine VO.ma rfl rfl rfl rfl ?_
       refine VO.nil ?_
       refine VC.exit ?_
       refine VC.region ?_
       refine VO.val rfl rfl (OpV.add rfl rfl rfl (by unfold fits; omega)) ?_
       refine VO.mv rfl rfl rfl rfl ?_
       refine VO.nil ?_
       exact Exists.intro (⟨(u73, pl ++ [(k : Int)], q + 1), by show q + 1 ≤ _; omega, by show (pl ++ [_]).length = q + 1; simp [hl], (bal_step (by omega) (by omega) hpb hpg (by simpa using h5) hns).1, (bal_step (by omega) (by omega) hpb hpg (by simpa using h5) hns).2⟩) (And.intro (Le.mk hB [0, 1] ⟨rfl, rfl, rfl, rfl, rfl, rfl, rfl, trivial⟩ rfl (by dsimp only; rw [List.length_append]; rfl) (Nat.le_refl _)) (by first | omega | (show _ < _; omega) | (simp only []; omega)))
      ·have h5 := h5b
       try simp only [qqT, qqF, qqN, qqM, qqL, qqE] at h5
       refine VC.skip ?_
       refine VC.draw (fun j b => j = 11 ∧ b = g28) hB (by kernel_rfl) ?_
       refine VA.take (i := 0) rfl (by kernel_rfl) (by kernel_rfl) (by kernel_rfl) rfl rfl (OpV.move (.inl rfl) rfl) ?_
       refine VA.take (i := 1) rfl (by kernel_rfl) (by kernel_rfl) (by kernel_rfl) rfl rfl (OpV.nilCheck_at rfl rfl) ?_
       refine VA.take (i := 2) rfl (by kernel_rfl) (by kernel_rfl) (by kernel_rfl) rfl rfl (OpV.fieldAddr_atO 2 rfl Tryz.underlying221 rfl rfl Tryz.sizeOf22 rfl rfl) ?_
       refine VA.take (i := 3) rfl (by kernel_rfl) (by kernel_rfl) (by kernel_rfl) rfl rfl (OpV.load_at rfl hB (by first | exact OutW.wi1 (k := 0) rfl rfl | exact OutW.wi1 (k := 1) rfl rfl) Tryz.isAgg22 rfl rfl) ?_
       refine VA.take (i := 4) rfl (by kernel_rfl) (by kernel_rfl) (by kernel_rfl) rfl rfl (OpV.move (.inl rfl) rfl) ?_
       refine VA.take (i := 5) rfl (by kernel_rfl) (by kernel_rfl) (by kernel_rfl) rfl rfl (OpV.indexAddr_o rfl Tryz.underlying22 Tryz.sizeOf3 rfl rfl rfl (by omega)) ?_
       refine VA.takeT [6, 9, 11] (i := 6) (by kernel_rfl) (by kernel_rfl) rfl (by kernel_rfl) (by kernel_rfl) (by kernel_rfl) rfl rfl (OpV.load_own (i := 0) rfl hB Tryz.isAgg3 rfl rfl (intsT_get (by omega)) (fun ⟨j, h1, h2, _⟩ => by subst h2; cases h1)) ?_
       refine VA.take (i := 7) rfl (by kernel_rfl) (by kernel_rfl) (by kernel_rfl) rfl rfl (OpV.move (.inl rfl) rfl) ?_
       refine VA.take (i := 8) rfl (by kernel_rfl) (by kernel_rfl) (by kernel_rfl) rfl rfl (OpV.bshl1 rfl rfl rfl (by omega)) ?_
       refine VA.take (i := 9) rfl (by kernel_rfl) (by kernel_rfl) (by kernel_rfl) rfl rfl (OpV.bdiff (a := mskP (pl ++ [(k : Int)]) k) (b := 2 ^ q) rfl rfl rfl (by have := msk12 (pl := pl ++ [(k : Int)]) (by simp; omega) k; omega) (by omega)) ?_
       refine VA.take (i := 10) rfl (by kernel_rfl) (by kernel_rfl) (by kernel_rfl) rfl rfl (OpV.indexAddr_o rfl Tryz.underlying22 Tryz.sizeOf3 rfl rfl rfl (by omega)) ?_
       refine VA.all (rs := [11]) (by kernel_rfl) (by decide) ?_
       refine ⟨⟨_, rfl, .inl rfl, ?_⟩, trivial⟩
       refine OpE.store1 (i := 0) rfl hB rfl Tryz.sizeOf3 rfl rfl rfl rfl rfl rfl (by rw [intsL_len, tabI_len]; omega) ((intsL_set _ _ _).trans (congrArg intsL (mskT_no hl))) (by first | exact ⟨rfl, rfl⟩ | exact .inl ⟨rfl, rfl⟩ | exact .inr ⟨rfl, rfl⟩ | exact ⟨rfl, trivial⟩ | exact .inl ⟨rfl, trivial⟩ | exact .inr ⟨rfl, trivial⟩ | exact ⟨by decide, rfl⟩) ?_
       refine VA.done (by kernel_rfl) ?_
       refine VC.region ?_
       refine VO.val rfl rfl (OpV.add rfl rfl rfl (by unfold fits; omega)) ?_
       refine VO.mv rfl rfl rfl rfl ?_
       refine VO.nil ?_
       exact Exists.intro (⟨k + 1, by omega, lt_succ_cases hns (by simpa using h5)⟩) (And.intro (Le.mk hB [0, 1] ⟨rfl, rfl, rfl, rfl, rfl, rfl, rfl, rfl, rfl, rfl, trivial⟩ rfl rfl (Nat.le_refl _)) (by first | omega | (show _ < _; omega) | (simp only []; omega)))
     ·have h4 := h4b
      try simp only [qqT, qqF, qqN, qqM, qqL, qqE] at h4
      exact VC.absurd (bal_no hq1 hpb hlt (fun j hj => hns j (by omega)))
    ·have aH1 := aH1b
     try simp only [qqT, qqF, qqN, qqM, qqL, qqE] at aH1
     refine VC.exit ?_
     refine VC.sr ?_
     refine VO.mv rfl rfl rfl rfl ?_
     refine VO.mv rfl rfl rfl rfl ?_
     refine VO.ma rfl rfl rfl rfl ?_
     refine VO.ma rfl rfl rfl rfl ?_
     refine VO.ma rfl rfl rfl rfl ?_
     refine VO.ma rfl rfl rfl rfl ?_
     refine VO.nil ?_
     obtain rfl : q = ns.length := by omega
     refine VC.le _ (Le.rowI (t := 4) (i := 1) (xs := pl) hB hnew rfl rfl rfl) ?_
     rw [Nat.sub_self, grd] at hpg
     have h3 : bstV ms ns ns.length [] < neverC := by rw [hBv]; exact hlt
     refine VC.ret ?_
     exact Exists.intro _ (And.intro (RetV.four Tryz.results69 (ResV.tmp rfl) (ResV.tmp rfl) (ResV.tmp rfl) (ResV.tmp rfl)) (by rw [(bal_4 hf0 h12 h3).1, (bal_4 hf0 h12 h3).2.1, (bal_4 hf0 h12 h3).2.2.1, (bal_4 hf0 h12 h3).2.2.2, hBv, hpg]))
end Go.Proofs.YtaaokimiadfidaaGreatDoor
namespace Go.Proofs.YtaaokimiadfidaaGreatDoor
open Go.RowKit
set_option linter.unusedVariables false
set_option linter.unusedSimpArgs false
def needsM (l : List (ByteArray × Int)) : List NeedS := (sKeys l).map fun k => ⟨k, mgetD l k 0⟩
def ndOf (p : ByteArray × Int) : NeedS := ⟨p.1, p.2⟩
theorem mget_mem : ∀ {l : List (ByteArray × Int)} {p : ByteArray × Int}, (l.map (·.1)).Nodup → p ∈ l → mgetD l p.1 0 = p.2 := fun {l p} hd hp => by
 have h1 : mpos l p.1 < l.length := mpos_mem.2 (List.mem_map.2 ⟨p, hp, rfl⟩)
 have h2 := mpos_key l p.1 h1
 have hx : l[mpos l p.1] = p := by
  obtain ⟨j, hj, rfl⟩ := List.getElem_of_mem hp
  have := (List.getElem_inj (h₀ := by simpa using h1) (h₁ := by simpa using hj) hd).1 (by simpa using h2)
  simp [this]
 unfold mgetD
 rw [mget_pos, List.getElem?_eq_getElem h1, hx]; rfl
theorem bytesOf_toList (k : ByteArray) : bytesOf k.data.toList = k := by simp [bytesOf]
theorem sKeys_perm {α : Type} (l : List (ByteArray × α)) : (sKeys l).Perm (l.map (·.1)) := by
 have h := (List.mergeSort_perm (l.map fun p => p.1.data.toList) (fun x y => decide (x ≤ y))).map bytesOf
 rw [List.map_map] at h
 have e : (l.map fun p => p.1.data.toList).map bytesOf = l.map (·.1) := by
  rw [List.map_map]; exact List.map_congr_left fun p _ => bytesOf_toList p.1
 rw [List.map_map] at e
 rw [e] at h
 exact h
theorem sKeys_nodup {α : Type} {l : List (ByteArray × α)} (h : (l.map (·.1)).Nodup) : (sKeys l).Nodup := (sKeys_perm l).nodup_iff.2 h
theorem sKeys_ord {α : Type} (l : List (ByteArray × α)) : (sKeys l).Pairwise fun a b => sLt b a = false := by
 have h : ((l.map fun p => p.1.data.toList).mergeSort (fun x y => decide (x ≤ y))).Pairwise fun x y => decide (x ≤ y) = true := by
  refine List.pairwise_mergeSort ?_ ?_ _
  ·intro a b c h1 h2
   simp only [decide_eq_true_eq] at *
   exact List.le_trans h1 h2
  ·intro a b
   simp only [Bool.or_eq_true, decide_eq_true_eq]
   exact List.le_total a b
 unfold sKeys
 rw [List.pairwise_map]
 refine h.imp fun {a b} hab => ?_
 rw [← cmpB_lt, show cmpB (bytesOf b) (bytesOf a) = Lib.compareBytes b a by simp [cmpB, bytesOf], cmp_lt, bytesLess_eq]
 simp only [decide_eq_true_eq] at hab
 exact decide_eq_false (List.not_lt.2 hab)
theorem needsM_perm {l : List (ByteArray × Int)} (h : (l.map (·.1)).Nodup) : (needsM l).Perm (l.map ndOf) := by
 have h1 := (sKeys_perm l).map fun k => (⟨k, mgetD l k 0⟩ : NeedS)
 refine h1.trans (List.Perm.of_eq ?_)
 rw [List.map_map]
 refine List.map_congr_left fun p hp => ?_
 show (⟨p.1, mgetD l p.1 0⟩ : NeedS) = ndOf p
 rw [mget_mem h hp]; rfl
end Go.Proofs.YtaaokimiadfidaaGreatDoor
namespace Go.Proofs.YtaaokimiadfidaaGreatDoor
open Go.RowKit
set_option linter.unusedVariables false
set_option linter.unusedSimpArgs false
def m1K : ByteArray := ⟨#[109, 49]⟩
def m2K : ByteArray := ⟨#[109, 50]⟩
def topMs (can : List ByteArray) : List Mach := [⟨m1K, 1, 0, 10, can⟩, ⟨m2K, 1, 0, 10, can⟩]
def sc : List NeedS → Int
 | [] => 0
 | x :: l => x.count + sc l
theorem sc_perm {l r : List NeedS} (h : l.Perm r) : sc l = sc r := by
 induction h with
 | nil => rfl
 | cons x _ ih => simp only [sc, ih]
 | swap x y l => simp only [sc]; omega
 | trans _ _ ih1 ih2 => rw [ih1, ih2]
theorem sc_mput : ∀ (m : List (ByteArray × Int)) (k : ByteArray), sc ((mput m k (mgetD m k 0 + 1)).map ndOf) = sc (m.map ndOf) + 1
 | [], k => by simp [mput, sc, ndOf, mgetD, mget]
 | p :: r, k => by
  by_cases e : k = p.1
  ·subst e
   have h1 : mgetD (p :: r) p.1 0 = p.2 := by simp [mgetD, mget]
   rw [h1]
   simp only [mput, if_true, List.map_cons, sc, ndOf]; omega
  ·have h1 : mgetD (p :: r) k 0 = mgetD r k 0 := by simp [mgetD, mget, e]
   rw [h1]
   simp only [mput, if_neg e, List.map_cons, sc]
   rw [sc_mput r k]; omega
theorem sc_cnt' : ∀ (l : List PlaceS) (m : List (ByteArray × Int)), sc ((l.foldl (fun m x => mput m x.part (mgetD m x.part 0 + 1)) m).map ndOf) = sc (m.map ndOf) + l.length
 | [], m => by simp
 | x :: l, m => by rw [List.foldl_cons, sc_cnt' l, sc_mput, List.length_cons]; omega
theorem sc_needs (p : ProdS) : sc (needsL p) = p.places.length := by
 have h : (needsL p).Perm ((cntP p.places).map ndOf) := needsM_perm (cntP_nodup _)
 rw [sc_perm h]
 unfold cntP
 rw [sc_cnt']; simp [sc]
theorem placeE_key {p : ProdS} {i : Nat} (h : placeE p i = 0) : keyF (p.places.getD i default).part = true := by
 unfold placeE at h
 split at h
 ·cases h
 ·rename_i h1
  have : (keyF (p.places.getD i default).name && keyF (p.places.getD i default).part) = true := by simpa using h1
  rw [Bool.and_eq_true] at this
  exact this.2
theorem nd_in {p : ProdS} (h : prodF p = 0) {y : NeedS} (hy : y ∈ needsL p) : keyF y.key = true ∧ 1 ≤ y.count ∧ y.count ≤ p.places.length := by
 unfold needsL at hy
 obtain ⟨k, hk, rfl⟩ := List.mem_map.1 hy
 rw [sKeys_mem, cntP_mem] at hk
 obtain ⟨x, hx, rfl⟩ := hk
 obtain ⟨i, hi, rfl⟩ := List.getElem_of_mem hx
 have hp := placeE_key ((prodOk h).all i hi)
 rw [List.getD_eq_getElem?_getD, List.getElem?_eq_getElem hi] at hp
 refine ⟨hp, ?_, (cntP_bd _ _).2⟩
 show 1 ≤ mgetD (cntP p.places) p.places[i].part 0
 rw [cntP_get]
 have : 0 < (p.places.filter fun x => decide (x.part = p.places[i].part)).length := List.length_pos_of_mem (List.mem_filter.2 ⟨hx, by simp⟩)
 omega
theorem nd_keys (p : ProdS) : (needsL p).map (·.key) = sKeys (cntP p.places) := by
 unfold needsL; rw [List.map_map]
 conv => rhs; rw [← List.map_id (sKeys (cntP p.places))]
 exact List.map_congr_left fun x _ => rfl
theorem nd_rise (p : ProdS) {i : Nat} (h0 : 0 < i) (hi : i < ((needsL p).map (·.key)).length) : sLe (((needsL p).map (·.key)).getD i ByteArray.empty) (((needsL p).map (·.key)).getD (i - 1) ByteArray.empty) = false := by
 rw [nd_keys] at hi ⊢
 have h1 := List.pairwise_iff_getElem.1 (sKeys_ord (cntP p.places)) (i - 1) i (by omega) hi (by omega)
 have h2 := List.pairwise_iff_getElem.1 (sKeys_nodup (cntP_nodup p.places)) (i - 1) i (by omega) hi (by omega)
 rw [List.getD_eq_getElem?_getD, List.getElem?_eq_getElem hi, List.getD_eq_getElem?_getD, List.getElem?_eq_getElem (by omega)]
 unfold sLe
 show (sLt _ _ || sEq _ _) = false
 simp only [Option.getD_some]
 rw [h1]
 cases h : sEq (sKeys (cntP p.places))[i] (sKeys (cntP p.places))[i - 1] with
 | false => rfl
 | true => exact absurd (sEq_eq.1 h).symm h2
theorem nd_getk {l : List NeedS} {i : Nat} (h : i < l.length) : (l.map (·.key)).getD i ByteArray.empty = (l.getD i default).key := by simp [h]
theorem top_needs {p : ProdS} (h : prodF p = 0) (h5 : p.places.length ≤ 5) : needsF (needsL p) 1 1000 = 0 ∧ (needsL p).length ≤ 5 := by
 have hl : (needsL p).length ≤ 5 := by have := cntP_len p.places; rw [needsL_len]; omega
 refine ⟨needsF_ok (by omega) fun j hj => ?_, hl⟩
 have hm : (needsL p).getD j default ∈ needsL p := by rw [List.getD_eq_getElem?_getD, List.getElem?_eq_getElem hj]; exact List.getElem_mem hj
 have h1 := nd_in h hm
 refine needE_0 h1.1 ?_ (by unfold outR; simp [-List.getD_eq_getElem?_getD]; omega)
 by_cases h0 : j = 0
 ·exact .inl h0
 ·have := nd_rise p (i := j) (by omega) (by rw [List.length_map]; exact hj)
  rw [nd_getk hj, nd_getk (by omega)] at this
  exact .inr this
theorem top_can {p : ProdS} (h : prodF p = 0) (h5 : p.places.length ≤ 5) : canF ((needsL p).map (·.key)) = 0 := by
 have hl := (top_needs h h5).2
 refine canF_ok (by rw [List.length_map]; omega) fun j hj => ?_
 have hj' : j < (needsL p).length := by simpa using hj
 refine canE_0 ?_ ?_
 ·rw [nd_getk hj']
  exact (nd_in h (by rw [List.getD_eq_getElem?_getD, List.getElem?_eq_getElem hj']; exact List.getElem_mem hj')).1
 ·by_cases h0 : j = 0
  ·exact .inl h0
  ·exact .inr (nd_rise p (by omega) hj)
theorem top_k1 : keyF m1K = true := by decide +kernel
theorem top_k2 : keyF m2K = true := by decide +kernel
theorem top_ne : sEq m1K m2K = false := by decide +kernel
theorem top_mach {can : List ByteArray} (h : canF can = 0) : machF (topMs can) = 0 := by
 refine machF_ok (by show 0 < 2; decide) (by show 2 ≤ 6; decide) fun j hj => ?_
 have h3 : (outR 1 0 10000000 || (outR 0 0 10000000 || outR 10 0 100)) = false := by decide
 match j, hj with
 | 0, _ => rw [machE_x (ms := topMs can) (i := 0) top_k1 rfl h3]; exact h
 | 1, _ => rw [machE_x (ms := topMs can) (i := 1) top_k2 (by show (sEq m1K m2K || false) = false; rw [top_ne]; rfl) h3]; exact h
theorem top_each {can : List ByteArray} {k : Nat} (h : k < 2) : ((topMs can).getD k default).each = 1 ∧ ((topMs can).getD k default).fixed = 0 ∧ ((topMs can).getD k default).feeders = 10 ∧ ((topMs can).getD k default).can = can := by
 match k, h with
 | 0, _ => exact ⟨rfl, rfl, rfl, rfl⟩
 | 1, _ => exact ⟨rfl, rfl, rfl, rfl⟩
theorem top_plan {p : ProdS} (h : prodF p = 0) (h5 : p.places.length ≤ 5) : VPlan (topMs ((needsL p).map (·.key))) (needsL p) (List.replicate (needsL p).length 0) := by
 have hm := top_mach (top_can h h5)
 have hl := (top_needs h h5).2
 refine (planF_valid hm).1 (planF_0 (by simp) (fun j hj => ?_) fun k hk => ?_)
 ·have hj' : j < (needsL p).length := by simpa using hj
  have e : (List.replicate (needsL p).length (0 : Int)).getD j 0 = 0 := by simp [hj']
  refine planE_0 (by rw [e]; show ¬ ((0 : Int) < 0 ∨ (2 : Int) ≤ 0); omega) ?_
  rw [e]
  show hasK ((topMs ((needsL p).map (·.key))).getD 0 default) _ = true
  unfold hasK
  rw [(top_each (by decide)).2.2.2]
  refine List.any_eq_true.2 ⟨((needsL p).getD j default).key, List.mem_map.2 ⟨(needsL p).getD j default, ?_, rfl⟩, sEq_refl _⟩
  rw [List.getD_eq_getElem?_getD, List.getElem?_eq_getElem hj']; exact List.getElem_mem hj'
 ·have := cnt_le (List.replicate (needsL p).length (0 : Int)) k (List.replicate (needsL p).length (0 : Int)).length
  rw [(top_each hk).2.2.1]
  have h2 : (List.replicate (needsL p).length (0 : Int)).length = (needsL p).length := by simp
  omega
theorem wrk_one {can : List ByteArray} {ns : List NeedS} {pl : List Int} (h : InP (topMs can) pl) : ∀ r, r ≤ pl.length → r ≤ ns.length → wrk (topMs can) ns pl r = sc (ns.take r)
 | 0, _, _ => by simp [wrk, sc]
 | r + 1, h1, h2 => by
  obtain ⟨c, e, hc⟩ := h r (by omega)
  rw [wrk, wrk_one h r (by omega) (by omega), e, Int.toNat_natCast, (top_each hc).1, take_snocD (by omega) default]
  have key : ∀ (l : List NeedS) (x : NeedS), sc (l ++ [x]) = sc l + x.count := by
   intro l x
   induction l with
   | nil => simp [sc]
   | cons y l ih => simp only [List.cons_append, sc, ih]; omega
  rw [key]; omega
structure TopNd (p : ProdS) (ms : List Mach) (P C : List Int) (X : Int) : Prop where
 ok : balOk ms (needsL p) = true
 err : balE ms (needsL p) = 0
 line : lineF ms (needsL p) P = 0
 len : C.length = 2
 nn : 0 ≤ C.getD 0 0 ∧ 0 ≤ C.getD 1 0
 sum : C.getD 0 0 + C.getD 1 0 = p.places.length
 max_ : max (C.getD 0 0) (C.getD 1 0) = X
 bnd : bndF ms (needsL p) ≤ X
 flt : faultF ms (needsL p) = 0
theorem topNd {p : ProdS} (h : prodF p = 0) (h5 : p.places.length ≤ 5) : TopNd p (topMs ((needsL p).map (·.key))) (balL (topMs ((needsL p).map (·.key))) (needsL p)) (cycL (topMs ((needsL p).map (·.key))) (needsL p) (balL (topMs ((needsL p).map (·.key))) (needsL p))) (balV (topMs ((needsL p).map (·.key))) (needsL p)) := by
 have hm := top_mach (top_can h h5)
 obtain ⟨hn, hl⟩ := top_needs h h5
 have hM := MnOk.mk' hm hn
 have hf : faultF (topMs ((needsL p).map (·.key))) (needsL p) = 0 := by rw [faultF, if_neg (by omega), hn]
 have hb := bst_valid hM (top_plan h h5)
 obtain ⟨b1, b2, b3, b4⟩ := bal_4 hf (by omega) hb
 obtain ⟨g1, g2⟩ := grd_ok hM hb
 have hsl := slowC_mx hM (by show 0 < 2; decide) g1.len
 have hcs := cyc_sum (ns := needsL p) g1.inp (grd (topMs ((needsL p).map (·.key))) (needsL p) (needsL p).length []).length (Nat.le_refl _)
 have hw := wrk_one (ns := needsL p) g1.inp (grd (topMs ((needsL p).map (·.key))) (needsL p) (needsL p).length []).length (Nat.le_refl _) (by rw [g1.len]; exact Nat.le_refl _)
 rw [g1.len, List.take_length, sc_needs] at hw
 have e0 : (cycL (topMs ((needsL p).map (·.key))) (needsL p) (grd (topMs ((needsL p).map (·.key))) (needsL p) (needsL p).length [])).getD 0 0 = cyc (topMs ((needsL p).map (·.key))) (needsL p) (grd (topMs ((needsL p).map (·.key))) (needsL p) (needsL p).length []) 0 (grd (topMs ((needsL p).map (·.key))) (needsL p) (needsL p).length []).length := tabI_get (by show 0 < 2; decide)
 have e1 : (cycL (topMs ((needsL p).map (·.key))) (needsL p) (grd (topMs ((needsL p).map (·.key))) (needsL p) (needsL p).length [])).getD 1 0 = cyc (topMs ((needsL p).map (·.key))) (needsL p) (grd (topMs ((needsL p).map (·.key))) (needsL p) (needsL p).length []) 1 (grd (topMs ((needsL p).map (·.key))) (needsL p) (needsL p).length []).length := tabI_get (by show 1 < 2; decide)
 have n0 := (cyc_in (plan := grd (topMs ((needsL p).map (·.key))) (needsL p) (needsL p).length []) hm hn (k := 0) (by show 0 < 2; decide) (r := (grd (topMs ((needsL p).map (·.key))) (needsL p) (needsL p).length []).length) (by rw [g1.len]; exact Nat.le_refl _)).1
 have n1 := (cyc_in (plan := grd (topMs ((needsL p).map (·.key))) (needsL p) (needsL p).length []) hm hn (k := 1) (by show 1 < 2; decide) (r := (grd (topMs ((needsL p).map (·.key))) (needsL p) (needsL p).length []).length) (by rw [g1.len]; exact Nat.le_refl _)).1
 rw [b3, b4]
 refine ⟨b2, b1, by rw [lineF, if_neg (by omega)]; exact (planF_valid hm).2 g1, cycL_len _ _ _, ⟨by rw [e0]; exact n0, by rw [e1]; exact n1⟩, ?_, ?_, by rw [← g2]; exact bnd_le hM (by show 0 < 2; decide) g1, hf⟩
 ·rw [e0, e1, g1.len]
  rw [g1.len] at hcs
  have h2 : smN (fun k => cyc (topMs ((needsL p).map (·.key))) (needsL p) (grd (topMs ((needsL p).map (·.key))) (needsL p) (needsL p).length []) k (needsL p).length) 2 = 0 + cyc (topMs ((needsL p).map (·.key))) (needsL p) (grd (topMs ((needsL p).map (·.key))) (needsL p) (needsL p).length []) 0 (needsL p).length + cyc (topMs ((needsL p).map (·.key))) (needsL p) (grd (topMs ((needsL p).map (·.key))) (needsL p) (needsL p).length []) 1 (needsL p).length := rfl
  have h3 : smN (fun k => ((topMs ((needsL p).map (·.key))).getD k default).fixed) 2 = 0 := rfl
  have h4 : (topMs ((needsL p).map (·.key))).length = 2 := rfl
  rw [h4, h2, h3, hw] at hcs
  omega
 ·rw [← g2, ← hsl, e0, e1]
  rfl
end Go.Proofs.YtaaokimiadfidaaGreatDoor
namespace Go.Proofs.YtaaokimiadfidaaGreatDoor
open Go.RowKit
set_option linter.unusedVariables false
set_option linter.unusedSimpArgs false
theorem lst_y {ms : List Mach} {key : ByteArray} {k : Nat} (h1 : hasK (ms.getD k default) key = true) (h2 : lstE ms key k < 0 ∨ (ms.getD k default).each < lstE ms key k) : lstE ms key (k + 1) = (ms.getD k default).each := by rw [lstE, if_pos ⟨h1, h2⟩]
theorem lst_n {ms : List Mach} {key : ByteArray} {k : Nat} (h : hasK (ms.getD k default) key = false ∨ (0 ≤ lstE ms key k ∧ lstE ms key k ≤ (ms.getD k default).each)) : lstE ms key (k + 1) = lstE ms key k := by
 rw [lstE, if_neg]
 rintro ⟨h1, h2⟩
 rcases h with h | h
 ·rw [h] at h1; cases h1
 ·omega
theorem tdiv_fit {a b : Int} (h0 : 0 ≤ a) (h : 0 < b) : 0 ≤ a.tdiv b ∧ a.tdiv b ≤ a := by
 rw [Int.tdiv_eq_ediv_of_nonneg h0]
 exact ⟨Int.ediv_nonneg h0 (by omega), Int.ediv_le_self _ h0⟩
set_option maxRecDepth 100000 in
set_option maxHeartbeats 8000000 in
theorem line_Bound {ms : List Mach} {ns : List NeedS} (hm : SmallM ms) (hn : SmallN ns) :
  SpecN Tryz.prog 71 [avL ms, avL ns] (fun y => y = .tup [avI (if faultF ms ns = 0 then bndF ms ns else 0), avI (faultF ms ns)]) := by
 refine SpecN.of_VCN Tryz.func71 rfl Tryz.ntmps71 (Nle rfl) fun w A hB => ?_
 have hnew : True := trivial
 refine VC.sr ?_
 refine VO.ma rfl rfl rfl rfl ?_
 refine VO.ma rfl rfl rfl rfl ?_
 refine VO.nil ?_
 refine VC.seq ?_
 refine VC.sr ?_
 refine VO.mv rfl rfl rfl rfl ?_
 refine VO.mv rfl rfl rfl rfl ?_
 refine VO.op rfl (OpE.call rfl hB rfl Tryz.call172 rfl (SpecN.spec (line_fault hm.l hm.k hm.c hm.s hn.l hn.k)) ?_)
 rintro _ rfl
 refine VO.ma rfl rfl rfl rfl ?_
 refine VO.nil ?_
 refine VC.sr ?_
 refine VO.mv rfl rfl rfl rfl ?_
 refine VO.val rfl rfl (OpV.neq rfl rfl rfl) ?_
 refine VO.nil ?_
 refine VC.cond rfl (fun h0b => ?_) (fun h0b => ?_)
 ·have h0 := h0b
  try simp only [qqT, qqF, qqN, qqM, qqL, qqE] at h0
  refine VC.sr ?_
  refine VO.mv rfl rfl rfl rfl ?_
  refine VO.ma rfl rfl rfl rfl ?_
  refine VO.ma rfl rfl rfl rfl ?_
  refine VO.nil ?_
  refine VC.ret ?_
  exact Exists.intro _ (And.intro (RetN.two Tryz.results71 (ResN.v rfl) (ResN.v rfl)) (by rw [if_neg h0]))
 ·have h0 := h0b
  try simp only [qqT, qqF, qqN, qqM, qqL, qqE] at h0
  have hf0 : faultF ms ns = 0 := by omega
  obtain ⟨hmf, hnf⟩ := faultF_0 hf0
  have hM := MnOk.mk' hmf hnf
  have hlen := machF_len hmf
  have hnl := needsF_len hnf
  refine VC.skip ?_
  refine VC.sr ?_
  refine VO.ma rfl rfl rfl rfl ?_
  refine VO.ma rfl rfl rfl rfl ?_
  refine VO.nil ?_
  refine VC.seq ?_
  refine VC.sr ?_
  refine VO.mv rfl rfl rfl rfl ?_
  refine VO.val rfl rfl (OpV.len_im rfl Tryz.underlying102 rfl) ?_
  refine VO.mv rfl rfl rfl rfl ?_
  refine VO.nil ?_
  refine VC.block ?_
  refine VC.loopK [(0, _), (1, _), (22, _), (23, _)] ⟨rfl, rfl, rfl, rfl, trivial⟩ ({q : Nat // q ≤ ms.length}) (fun (iZ : {q : Nat // q ≤ ms.length}) => match iZ with | ⟨q, hq⟩ => [(7, avI (smN (fun k => (ms.getD k default).fixed) q)), (8, avI (mxK (fun k => (ms.getD k default).fixed) q)), (24, avI (q : Int))]) (fun (iZ : {q : Nat // q ≤ ms.length}) => match iZ with | ⟨q, hq⟩ => []) (fun (iZ : {q : Nat // q ≤ ms.length}) => match iZ with | ⟨q, hq⟩ => 0) (fun (iZ : {q : Nat // q ≤ ms.length}) => match iZ with | ⟨q, hq⟩ => ms.length - q) ⟨0, Nat.zero_le _⟩ (Le.mk hB [] ⟨rfl, rfl, rfl, rfl, rfl, rfl, rfl, trivial⟩ rfl rfl (Nat.le_refl _)) ?_
  rintro ⟨q, hq⟩
  show VC _ _ _ _ ⟨[(7, avI (smN (fun k => (ms.getD k default).fixed) q)), (8, avI (mxK (fun k => (ms.getD k default).fixed) q)), (24, avI (q : Int))] ++ [(0, _), (1, _), (22, _), (23, _)], [], 0⟩
  have hb1 := smN_fix hM q
  have hb2 := hM.fix q
  refine VC.sr ?_
  refine VO.val rfl rfl (OpV.lss rfl rfl rfl) ?_
  refine VO.nil ?_
  refine VC.seq ?_
  refine VC.cond rfl (fun aH1b => ?_) (fun aH1b => ?_)
  ·have aH1 := aH1b
   try simp only [qqT, qqF, qqN, qqM, qqL, qqE] at aH1
   refine VC.skip ?_
   refine VC.seq ?_
   refine VC.block ?_
   refine VC.sr ?_
   refine VO.val rfl rfl (OpV.indexAddr_E rfl Tryz.underlying102 Tryz.sizeOf128 rfl rfl rfl (by omega)) ?_
   refine VO.val rfl rfl (OpV.loadK_at rfl hB OutW.no Tryz.isAgg128 Tryz.sizeOf128 rfl rfl) ?_
   refine VO.op rfl (OpE.alloc rfl hB rfl Tryz.zeroValue128 rfl ?_)
   intro g10
   refine VO.op rfl (OpE.store (i := 0) rfl hB rfl Tryz.sizeOf128 rfl rfl rfl rfl rfl rfl (Nle rfl) trivial ?_)
   refine VO.nil ?_
   refine VC.sr ?_
   refine VO.mv rfl rfl rfl rfl ?_
   refine VO.val rfl rfl (OpV.fieldAddrO 2 rfl Tryz.underlying128 rfl rfl Tryz.sizeOf3 rfl) ?_
   refine VO.val rfl rfl (OpV.load_own (i := 0) rfl hB Tryz.isAgg3 rfl rfl rfl (fun h => h)) ?_
   refine VO.val rfl rfl (OpV.add rfl rfl rfl (by unfold fits; omega)) ?_
   refine VO.ma rfl rfl rfl rfl ?_
   refine VO.nil ?_
   refine VC.region ?_
   refine VO.mv rfl rfl rfl rfl ?_
   refine VO.val rfl rfl (OpV.fieldAddrO 2 rfl Tryz.underlying128 rfl rfl Tryz.sizeOf3 rfl) ?_
   refine VO.val rfl rfl (OpV.load_own (i := 0) rfl hB Tryz.isAgg3 rfl rfl rfl (fun h => h)) ?_
   refine VO.val rfl rfl (OpV.max2 rfl rfl rfl) ?_
   refine VO.ma rfl rfl rfl rfl ?_
   refine VO.nil ?_
   refine VC.region ?_
   refine VO.val rfl rfl (OpV.add rfl rfl rfl (by unfold fits; omega)) ?_
   refine VO.mv rfl rfl rfl rfl ?_
   refine VO.nil ?_
   exact Exists.intro (⟨q + 1, by omega⟩) (And.intro (Le.mk hB [] ⟨rfl, rfl, rfl, rfl, rfl, rfl, rfl, trivial⟩ rfl rfl (Nat.le_refl _)) (by first | omega | (show _ < _; omega) | (simp only []; omega)))
  ·have aH1 := aH1b
   try simp only [qqT, qqF, qqN, qqM, qqL, qqE] at aH1
   obtain rfl : q = ms.length := by omega
   have hb3 := mxK_fix hM ms.length
   refine VC.exit ?_
   refine VC.seq ?_
   refine VC.sr ?_
   refine VO.mv rfl rfl rfl rfl ?_
   refine VO.val rfl rfl (OpV.len_im rfl Tryz.underlying77 rfl) ?_
   refine VO.mv rfl rfl rfl rfl ?_
   refine VO.nil ?_
   refine VC.block ?_
   refine VC.loopK [(0, _), (8, _), (37, _), (38, _)] ⟨rfl, rfl, rfl, rfl, trivial⟩ ({r : Nat // r ≤ ns.length}) (fun (iZ : {r : Nat // r ≤ ns.length}) => match iZ with | ⟨r, hq1⟩ => [(7, avI (bndS ms ns r)), (39, avI (r : Int))]) (fun (iZ : {r : Nat // r ≤ ns.length}) => match iZ with | ⟨r, hq1⟩ => []) (fun (iZ : {r : Nat // r ≤ ns.length}) => match iZ with | ⟨r, hq1⟩ => 0) (fun (iZ : {r : Nat // r ≤ ns.length}) => match iZ with | ⟨r, hq1⟩ => ns.length - r) ⟨0, Nat.zero_le _⟩ (Le.mk hB [] ⟨rfl, rfl, rfl, rfl, rfl, rfl, trivial⟩ rfl rfl (Nat.le_refl _)) ?_
   rintro ⟨r, hq1⟩
   show VC _ _ _ _ ⟨[(7, avI (bndS ms ns r)), (39, avI (r : Int))] ++ [(0, _), (8, _), (37, _), (38, _)], [], 0⟩
   have hc1 := bndS_in hM r
   refine VC.sr ?_
   refine VO.val rfl rfl (OpV.lss rfl rfl rfl) ?_
   refine VO.nil ?_
   refine VC.seq ?_
   refine VC.cond rfl (fun aH2b => ?_) (fun aH2b => ?_)
   ·have aH2 := aH2b
    try simp only [qqT, qqF, qqN, qqM, qqL, qqE] at aH2
    refine VC.skip ?_
    refine VC.seq ?_
    refine VC.block ?_
    refine VC.sr ?_
    refine VO.val rfl rfl (OpV.indexAddr_E rfl Tryz.underlying77 Tryz.sizeOf96 rfl rfl rfl (by omega)) ?_
    refine VO.val rfl rfl (OpV.loadK_at rfl hB OutW.no Tryz.isAgg96 Tryz.sizeOf96 rfl rfl) ?_
    refine VO.op rfl (OpE.alloc rfl hB rfl Tryz.zeroValue96 rfl ?_)
    intro g12
    refine VO.op rfl (OpE.store (i := 0) rfl hB rfl Tryz.sizeOf96 rfl rfl rfl rfl rfl rfl (Nle rfl) trivial ?_)
    refine VO.nil ?_
    refine VC.sr ?_
    refine VO.ma rfl rfl rfl rfl ?_
    refine VO.nil ?_
    refine VC.seq ?_
    refine VC.sr ?_
    refine VO.mv rfl rfl rfl rfl ?_
    refine VO.val rfl rfl (OpV.len_im rfl Tryz.underlying102 rfl) ?_
    refine VO.mv rfl rfl rfl rfl ?_
    refine VO.nil ?_
    refine VC.block ?_
    refine VC.loopK [(0, _), (7, _), (8, _), (12, _), (37, _), (38, _), (39, _), (43, _), (44, _)] ⟨rfl, rfl, rfl, rfl, rfl, rfl, rfl, rfl, rfl, trivial⟩ ({k : Nat // k ≤ ms.length}) (fun (iZ : {k : Nat // k ≤ ms.length}) => match iZ with | ⟨k, hq2⟩ => [(13, avI (lstE ms (ns.getD r default).key k)), (45, avI (k : Int))]) (fun (iZ : {k : Nat // k ≤ ms.length}) => match iZ with | ⟨k, hq2⟩ => [.box g12 ⟨[avS (ns.getD r default).key, avI (ns.getD r default).count], 96, 2⟩]) (fun (iZ : {k : Nat // k ≤ ms.length}) => match iZ with | ⟨k, hq2⟩ => 0) (fun (iZ : {k : Nat // k ≤ ms.length}) => match iZ with | ⟨k, hq2⟩ => ms.length - k) ⟨0, Nat.zero_le _⟩ (Le.mk hB [0] ⟨rfl, rfl, rfl, rfl, rfl, rfl, rfl, rfl, rfl, rfl, rfl, trivial⟩ rfl rfl (Nat.le_refl _)) ?_
    rintro ⟨k, hq2⟩
    show VC _ _ _ _ ⟨[(13, avI (lstE ms (ns.getD r default).key k)), (45, avI (k : Int))] ++ [(0, _), (7, _), (8, _), (12, _), (37, _), (38, _), (39, _), (43, _), (44, _)], [.box g12 ⟨[avS (ns.getD r default).key, avI (ns.getD r default).count], 96, 2⟩], 0⟩
    have hl1 := lstE_each hM (key := (ns.getD r default).key) k
    refine VC.sr ?_
    refine VO.val rfl rfl (OpV.lss rfl rfl rfl) ?_
    refine VO.nil ?_
    refine VC.seq ?_
    refine VC.cond rfl (fun aH3b => ?_) (fun aH3b => ?_)
    ·have aH3 := aH3b
     try simp only [qqT, qqF, qqN, qqM, qqL, qqE] at aH3
     refine VC.skip ?_
     refine VC.seq ?_
     refine VC.block ?_
     refine VC.sr ?_
     refine VO.val rfl rfl (OpV.indexAddr_E rfl Tryz.underlying102 Tryz.sizeOf128 rfl rfl rfl (by omega)) ?_
     refine VO.val rfl rfl (OpV.loadK_at rfl hB OutW.no Tryz.isAgg128 Tryz.sizeOf128 rfl rfl) ?_
     refine VO.op rfl (OpE.alloc rfl hB rfl Tryz.zeroValue128 rfl ?_)
     intro g15
     refine VO.op rfl (OpE.store (i := 1) rfl hB rfl Tryz.sizeOf128 rfl rfl rfl rfl rfl rfl (Nle rfl) trivial ?_)
     refine VO.nil ?_
     refine VC.sr ?_
     refine VO.val rfl rfl (OpV.loadK_own (i := 1) rfl hB Tryz.isAgg128 Tryz.sizeOf128 rfl rfl rfl (fun h => h)) ?_
     refine VO.val rfl rfl (OpV.fieldAddrO 0 rfl Tryz.underlying96 rfl rfl Tryz.sizeOf9 rfl) ?_
     refine VO.val rfl rfl (OpV.load_own (i := 0) rfl hB Tryz.isAgg9 rfl rfl rfl (fun h => h)) ?_
     refine VO.op rfl (OpE.call rfl hB rfl Tryz.call179 rfl (SpecN.spec (line_can (by have := canF_keys (machF_each hmf (i := k) (by omega)).2; omega) (canF_sort (machF_each hmf (by omega)).2))) ?_)
     rintro _ rfl
     refine VO.mv rfl rfl rfl rfl ?_
     refine VO.opG rfl rfl rfl rfl (fun aK4b => ?_) (fun aK4b => ?_)
     ·replace aK4b : _ = true := aK4b
      have aK4 := aK4b
      try simp only [qqT, qqF, qqN, qqM, qqL, qqE] at aK4
      refine OpE.val (W := NoB) (OpV.move (.inl rfl) rfl) rfl ?_
      refine VO.opY rfl rfl rfl rfl aK4b ?_
      refine OpE.val (W := NoB) (OpV.lss rfl rfl rfl) rfl ?_
      refine VO.opY rfl rfl rfl rfl aK4b ?_
      refine OpE.val (W := NoB) (OpV.move (.inl rfl) rfl) rfl ?_
      refine VO.opG rfl rfl rfl rfl (fun aK5b => ?_) (fun aK5b => ?_)
      ·replace aK5b : _ = false := aK5b
       have aK5 := aK5b
       try simp only [qqT, qqF, qqN, qqM, qqL, qqE] at aK5
       refine OpE.val (W := NoB) (OpV.fieldAddrO 1 rfl Tryz.underlying128 rfl rfl Tryz.sizeOf3 rfl) rfl ?_
       refine VO.opY rfl rfl rfl rfl aK5b ?_
       refine OpE.val (W := NoB) (OpV.load_own (i := 1) rfl hB Tryz.isAgg3 rfl rfl rfl (fun h => h)) rfl ?_
       refine VO.opY rfl rfl rfl rfl aK5b ?_
       refine OpE.val (W := NoB) (OpV.move (.inl rfl) rfl) rfl ?_
       refine VO.opY rfl rfl rfl rfl aK5b ?_
       refine OpE.val (W := NoB) (OpV.lss rfl rfl rfl) rfl ?_
       refine VO.opY rfl rfl rfl rfl aK4b ?_
       refine OpE.val (W := NoB) (OpV.pickF rfl rfl rfl rfl aK5b) rfl ?_
       refine VO.val rfl rfl (OpV.pickT rfl rfl rfl rfl aK4b) ?_
       refine VO.nil ?_
       refine VC.cond rfl (fun aH6b => ?_) (fun aH6b => ?_)
       ·have aH6 := aH6b
        try simp only [qqT, qqF, qqN, qqM, qqL, qqE] at aH6
        refine VC.region ?_
        refine VO.val rfl rfl (OpV.fieldAddrO 1 rfl Tryz.underlying128 rfl rfl Tryz.sizeOf3 rfl) ?_
        refine VO.val rfl rfl (OpV.load_own (i := 1) rfl hB Tryz.isAgg3 rfl rfl rfl (fun h => h)) ?_
        refine VO.ma rfl rfl rfl rfl ?_
        refine VO.nil ?_
        refine VC.region ?_
        refine VO.val rfl rfl (OpV.add rfl rfl rfl (by unfold fits; omega)) ?_
        refine VO.mv rfl rfl rfl rfl ?_
        refine VO.nil ?_
        exact Exists.intro (⟨k + 1, by omega⟩) (And.intro (Le.mk hB [0] ⟨(by dsimp only; first | (rw [lst_y (by assumption) (by first | exact .inl (by omega) | exact .inr (by omega))]; rfl) | (rw [lst_n (by first | exact .inl (by assumption) | exact .inr (by omega))]; rfl)), rfl, rfl, rfl, rfl, rfl, rfl, rfl, rfl, rfl, rfl, trivial⟩ rfl rfl (Nat.le_refl _)) (by first | omega | (show _ < _; omega) | (simp only []; omega)))
       ·have aH6 := aH6b
        try simp only [qqT, qqF, qqN, qqM, qqL, qqE] at aH6
        refine VC.skip ?_
        refine VC.region ?_
        refine VO.val rfl rfl (OpV.add rfl rfl rfl (by unfold fits; omega)) ?_
        refine VO.mv rfl rfl rfl rfl ?_
        refine VO.nil ?_
        exact Exists.intro (⟨k + 1, by omega⟩) (And.intro (Le.mk hB [0] ⟨(by dsimp only; first | (rw [lst_y (by assumption) (by first | exact .inl (by omega) | exact .inr (by omega))]; rfl) | (rw [lst_n (by first | exact .inl (by assumption) | exact .inr (by omega))]; rfl)), rfl, rfl, rfl, rfl, rfl, rfl, rfl, rfl, rfl, rfl, trivial⟩ rfl rfl (Nat.le_refl _)) (by first | omega | (show _ < _; omega) | (simp only []; omega)))
      ·replace aK5b : _ = true := aK5b
       have aK5 := aK5b
       try simp only [qqT, qqF, qqN, qqM, qqL, qqE] at aK5
       refine VO.opX rfl rfl rfl rfl aK5b ?_
       refine VO.opX rfl rfl rfl rfl aK5b ?_
       refine VO.opX rfl rfl rfl rfl aK5b ?_
       refine VO.opY rfl rfl rfl rfl aK4b ?_
       refine OpE.val (W := NoB) (OpV.pickT rfl rfl rfl rfl aK5b) rfl ?_
       refine VO.val rfl rfl (OpV.pickT rfl rfl rfl rfl aK4b) ?_
       refine VO.nil ?_
       refine VC.condT rfl rfl ?_
       refine VC.region ?_
       refine VO.val rfl rfl (OpV.fieldAddrO 1 rfl Tryz.underlying128 rfl rfl Tryz.sizeOf3 rfl) ?_
       refine VO.val rfl rfl (OpV.load_own (i := 1) rfl hB Tryz.isAgg3 rfl rfl rfl (fun h => h)) ?_
       refine VO.ma rfl rfl rfl rfl ?_
       refine VO.nil ?_
       refine VC.region ?_
       refine VO.val rfl rfl (OpV.add rfl rfl rfl (by unfold fits; omega)) ?_
       refine VO.mv rfl rfl rfl rfl ?_
       refine VO.nil ?_
       exact Exists.intro (⟨k + 1, by omega⟩) (And.intro (Le.mk hB [0] ⟨(by dsimp only; first | (rw [lst_y (by assumption) (by first | exact .inl (by omega) | exact .inr (by omega))]; rfl) | (rw [lst_n (by first | exact .inl (by assumption) | exact .inr (by omega))]; rfl)), rfl, rfl, rfl, rfl, rfl, rfl, rfl, rfl, rfl, rfl, trivial⟩ rfl rfl (Nat.le_refl _)) (by first | omega | (show _ < _; omega) | (simp only []; omega)))
     ·replace aK4b : _ = false := aK4b
      have aK4 := aK4b
      try simp only [qqT, qqF, qqN, qqM, qqL, qqE] at aK4
      refine VO.opX rfl rfl rfl rfl aK4b ?_
      refine VO.opX rfl rfl rfl rfl aK4b ?_
      refine VO.opU rfl rfl rfl rfl ?_
      refine VO.opU rfl rfl rfl rfl ?_
      refine VO.opU rfl rfl rfl rfl ?_
      refine VO.opU rfl rfl rfl rfl ?_
      refine VO.opX rfl rfl rfl rfl aK4b ?_
      refine VO.val rfl rfl (OpV.pickF rfl rfl rfl rfl aK4b) ?_
      refine VO.nil ?_
      refine VC.condF rfl rfl ?_
      refine VC.skip ?_
      refine VC.region ?_
      refine VO.val rfl rfl (OpV.add rfl rfl rfl (by unfold fits; omega)) ?_
      refine VO.mv rfl rfl rfl rfl ?_
      refine VO.nil ?_
      exact Exists.intro (⟨k + 1, by omega⟩) (And.intro (Le.mk hB [0] ⟨(by dsimp only; first | (rw [lst_y (by assumption) (by first | exact .inl (by omega) | exact .inr (by omega))]; rfl) | (rw [lst_n (by first | exact .inl (by assumption) | exact .inr (by omega))]; rfl)), rfl, rfl, rfl, rfl, rfl, rfl, rfl, rfl, rfl, rfl, trivial⟩ rfl rfl (Nat.le_refl _)) (by first | omega | (show _ < _; omega) | (simp only []; omega)))
    ·have aH3 := aH3b
     try simp only [qqT, qqF, qqN, qqM, qqL, qqE] at aH3
     obtain rfl : k = ms.length := by omega
     have hl2 := lstE_each hM (key := (ns.getD r default).key) ms.length
     have hl3 := mul_in2 (a := max (lstE ms (ns.getD r default).key ms.length) 0) (by omega) (hM.cnt r)
     refine VC.exit ?_
     refine VC.region ?_
     refine VO.mv rfl rfl rfl rfl ?_
     refine VO.mv rfl rfl rfl rfl ?_
     refine VO.val rfl rfl (OpV.max2 rfl rfl rfl) ?_
     refine VO.val rfl rfl (OpV.fieldAddrO 1 rfl Tryz.underlying96 rfl rfl Tryz.sizeOf3 rfl) ?_
     refine VO.val rfl rfl (OpV.load_own (i := 0) rfl hB Tryz.isAgg3 rfl rfl rfl (fun h => h)) ?_
     refine VO.val rfl rfl (OpV.mul rfl rfl rfl (by unfold fits; omega)) ?_
     refine VO.val rfl rfl (OpV.add rfl rfl rfl (by unfold fits; omega)) ?_
     refine VO.ma rfl rfl rfl rfl ?_
     refine VO.nil ?_
     refine VC.region ?_
     refine VO.val rfl rfl (OpV.add rfl rfl rfl (by unfold fits; omega)) ?_
     refine VO.mv rfl rfl rfl rfl ?_
     refine VO.nil ?_
     exact Exists.intro (⟨r + 1, by omega⟩) (And.intro (Le.mk hB [] ⟨rfl, rfl, rfl, rfl, rfl, rfl, trivial⟩ rfl rfl (Nat.le_refl _)) (by first | omega | (show _ < _; omega) | (simp only []; omega)))
   ·have aH2 := aH2b
    try simp only [qqT, qqF, qqN, qqM, qqL, qqE] at aH2
    obtain rfl : r = ns.length := by omega
    have htd := tdiv_fit (a := bndS ms ns ns.length + ms.length - 1) (b := ms.length) (by omega) (by omega)
    refine VC.exit ?_
    refine VC.sr ?_
    refine VO.mv rfl rfl rfl rfl ?_
    refine VO.mv rfl rfl rfl rfl ?_
    refine VO.mv rfl rfl rfl rfl ?_
    refine VO.val rfl rfl (OpV.len_im rfl Tryz.underlying102 rfl) ?_
    refine VO.val rfl rfl (OpV.add rfl rfl rfl (by unfold fits; omega)) ?_
    refine VO.val rfl rfl (OpV.sub rfl rfl rfl (by unfold fits; omega)) ?_
    refine VO.mv rfl rfl rfl rfl ?_
    refine VO.val rfl rfl (OpV.len_im rfl Tryz.underlying102 rfl) ?_
    refine VO.val rfl rfl (OpV.quo rfl rfl rfl (by omega) (by unfold fits; omega)) ?_
    refine VO.val rfl rfl (OpV.max2 rfl rfl rfl) ?_
    refine VO.ma rfl rfl rfl rfl ?_
    refine VO.ma rfl rfl rfl rfl ?_
    refine VO.nil ?_
    refine VC.ret ?_
    exact Exists.intro _ (And.intro (RetN.two Tryz.results71 (ResN.v rfl) (ResN.v rfl)) (by rw [if_pos hf0, hf0]; rfl))
end Go.Proofs.YtaaokimiadfidaaGreatDoor
