/- Part 4 of a proof: the walks and laws that it needs. -/
import Derived.Test.YtdnlhdilpdeecaaGreatDoorZB3
namespace Go.Proofs.YtdnlhdilpdeecaaGreatDoor
open Go.RowKit Go.Sort
set_option linter.unusedVariables false
set_option linter.unusedSimpArgs false
theorem cmpOr_argsE {x y : Int} {w : World} {A : Nat → Prop} {us : Array Value} (h : Args w A [avInts [x, y]] us) : Calls Tryz.prog 116 us w fun e w' => e = .returned (.int .i64 (errsF [x, y])) ∧ w' = w := by
 obtain ⟨h1, h2⟩ := h
 have h3 := h2 0 (by simp)
 have hu : us = #[us.getD 0 undef] := by
  apply Array.ext (by simpa using h1)
  intro i hi1 hi2
  obtain rfl : i = 0 := by simpa using hi2
  simp [Array.getD_eq_getD_getElem?, Array.getElem?_eq_getElem hi1]
 rw [hu]
 generalize us.getD 0 undef = v at h3
 have h4 : Rep w (fun b => b < w.heap.size ∧ A b) (.im 2 1 fun j => avI ([x, y].getD j 0)) v := h3
 cases h4 with
 | im n sz f b off cap c e u hZ k1 k2 hb hc hr =>
  have c0 := hc 0 (by decide)
  have c1 := hc 1 (by decide)
  have r0 : u 0 = .int .i64 x := (hr 0 (by decide)).eq_v
  have r1 : u 1 = .int .i64 y := (hr 1 (by decide)).eq_v
  rw [r0] at c0
  rw [r1] at c1
  exact cmpOr_x x y b off cap w (by simpa [World.cell?, hb] using c0) (by simpa [World.cell?, hb] using c1)
set_option maxRecDepth 100000 in
theorem inspect_Escapes1_d {x y : PairS}  (w : World) (A : Nat → Prop) (us : Array Value) (hA : Args w A [avPr x, avPr y] us) :
  Calls Tryz.prog 115 us w fun e w' => e = .returned (.int .i64 (cPr x y)) ∧ Chg NoB w w' ∧ w.drawn ≤ w'.drawn := by
 refine calls_of_VCD Tryz.func115 rfl Tryz.ntmps115 (Nle rfl) (fun w A hB => ?_) w A us hA
 have hnew : True := trivial
 refine VCD.seq ?_
 refine VCD.region ?_
 refine VOD.op rfl (OpED.box rfl hB rfl rfl rfl ?_)
 intro g2
 refine VOD.op rfl (OpED.box rfl hB rfl rfl rfl ?_)
 intro g3
 refine VOD.val rfl rfl (OpV.move (.inr rfl) rfl) ?_
 refine VOD.nil ?_
 show VCD _ _ _ _ _
 refine VCD.seq ?_
 refine VCD.draw (fun _ => NoB) hB (by kernel_rfl) ?_
 refine VAD.take (i := 0) rfl (by kernel_rfl) (by kernel_rfl) (by kernel_rfl) rfl rfl (OpV.fieldAddrO 0 rfl Tryz.underlying71 rfl rfl Tryz.sizeOf9 rfl) ?_
 refine VAD.take (i := 1) rfl (by kernel_rfl) (by kernel_rfl) (by kernel_rfl) rfl rfl (OpV.load_own (i := 0) rfl hB Tryz.isAgg9 rfl rfl rfl Wi.not0) ?_
 refine VAD.take (i := 2) rfl (by kernel_rfl) (by kernel_rfl) (by kernel_rfl) rfl rfl (OpV.fieldAddrO 0 rfl Tryz.underlying71 rfl rfl Tryz.sizeOf9 rfl) ?_
 refine VAD.take (i := 3) rfl (by kernel_rfl) (by kernel_rfl) (by kernel_rfl) rfl rfl (OpV.load_own (i := 1) rfl hB Tryz.isAgg9 rfl rfl rfl Wi.not0) ?_
 refine VAD.take (i := 5) rfl (by kernel_rfl) (by kernel_rfl) (by kernel_rfl) rfl rfl (OpV.fieldAddrO 1 rfl Tryz.underlying71 rfl rfl Tryz.sizeOf9 rfl) ?_
 refine VAD.take (i := 6) rfl (by kernel_rfl) (by kernel_rfl) (by kernel_rfl) rfl rfl (OpV.load_own (i := 0) rfl hB Tryz.isAgg9 rfl rfl rfl Wi.not0) ?_
 refine VAD.take (i := 7) rfl (by kernel_rfl) (by kernel_rfl) (by kernel_rfl) rfl rfl (OpV.fieldAddrO 1 rfl Tryz.underlying71 rfl rfl Tryz.sizeOf9 rfl) ?_
 refine VAD.take (i := 8) rfl (by kernel_rfl) (by kernel_rfl) (by kernel_rfl) rfl rfl (OpV.load_own (i := 1) rfl hB Tryz.isAgg9 rfl rfl rfl Wi.not0) ?_
 refine VAD.one (i := 4) (by kernel_rfl) rfl rfl ?_
 refine OpED.call (v := .int .i64 (cmpB x.name y.name)) rfl rfl Tryz.call117 rfl (fun w A us h => by rw [argsV2 h]; exact strCmp_x _ _ w) ?_
 refine VAD.one (i := 9) (by kernel_rfl) rfl rfl ?_
 refine OpED.call (v := .int .i64 (cmpB x.value y.value)) rfl rfl Tryz.call117 rfl (fun w A us h => by rw [argsV2 h]; exact strCmp_x _ _ w) ?_
 refine VAD.one (i := 10) (by kernel_rfl) rfl rfl ?_
 refine OpED.buildSlice (zc := #[.int .i64 0, .int .i64 0]) rfl hB rfl Tryz.underlying22 Tryz.sizeOf3 Tryz.zeroValue3 (by decide) (by decide) (by kernel_rfl) rfl rfl ?_
 refine VAD.le _ (Le.lits (t := 15) (xs := [cmpB x.name y.name, cmpB x.value y.value]) rfl rfl) ?_
 refine VAD.one (i := 11) (by kernel_rfl) rfl rfl ?_
 refine OpED.call (v := .int .i64 (cPr x y)) rfl rfl Tryz.call116 rfl (fun w A us h => cmpOr_argsE h) ?_
 refine VAD.take (i := 12) rfl (by kernel_rfl) (by kernel_rfl) (by kernel_rfl) rfl rfl (OpV.move (.inr rfl) rfl) ?_
 refine VAD.done (by kernel_rfl) ?_
 show VCD _ _ _ _ _
 refine VCD.ret ?_
 exact Exists.intro _ (And.intro (RetV.one Tryz.results115 (ResV.tmp rfl)) (rfl))
set_option maxRecDepth 100000 in
theorem rf_EscapesOf2_d {x y : PairS}  (w : World) (A : Nat → Prop) (us : Array Value) (hA : Args w A [avPr x, avPr y] us) :
  Calls Tryz.prog 138 us w fun e w' => e = .returned (.int .i64 (cPr x y)) ∧ Chg NoB w w' ∧ w.drawn ≤ w'.drawn := by
 refine calls_of_VCD Tryz.func138 rfl Tryz.ntmps138 (Nle rfl) (fun w A hB => ?_) w A us hA
 have hnew : True := trivial
 refine VCD.seq ?_
 refine VCD.region ?_
 refine VOD.op rfl (OpED.box rfl hB rfl rfl rfl ?_)
 intro g2
 refine VOD.op rfl (OpED.box rfl hB rfl rfl rfl ?_)
 intro g3
 refine VOD.val rfl rfl (OpV.move (.inr rfl) rfl) ?_
 refine VOD.nil ?_
 show VCD _ _ _ _ _
 refine VCD.seq ?_
 refine VCD.seq ?_
 refine VCD.region ?_
 refine VOD.val rfl rfl (OpV.fieldAddrO 0 rfl Tryz.underlying71 rfl rfl Tryz.sizeOf9 rfl) ?_
 refine VOD.val rfl rfl (OpV.load_own (i := 0) rfl hB Tryz.isAgg9 rfl rfl rfl (fun h => h)) ?_
 refine VOD.val rfl rfl (OpV.fieldAddrO 0 rfl Tryz.underlying71 rfl rfl Tryz.sizeOf9 rfl) ?_
 refine VOD.val rfl rfl (OpV.load_own (i := 1) rfl hB Tryz.isAgg9 rfl rfl rfl (fun h => h)) ?_
 refine VOD.val rfl rfl (OpV.sneq rfl rfl rfl) ?_
 refine VOD.nil ?_
 show VCD _ _ _ _ _
 refine VCD.cond rfl (fun aH1b => ?_) (fun aH1b => ?_)
 ·have aH1 := aH1b
  try simp only [qqT, qqF, qqN, qqM, qqL, qqE] at aH1
  refine VCD.seq ?_
  refine VCD.region ?_
  refine VOD.val rfl rfl (OpV.fieldAddrO 0 rfl Tryz.underlying71 rfl rfl Tryz.sizeOf9 rfl) ?_
  refine VOD.val rfl rfl (OpV.load_own (i := 0) rfl hB Tryz.isAgg9 rfl rfl rfl (fun h => h)) ?_
  refine VOD.val rfl rfl (OpV.fieldAddrO 0 rfl Tryz.underlying71 rfl rfl Tryz.sizeOf9 rfl) ?_
  refine VOD.val rfl rfl (OpV.load_own (i := 1) rfl hB Tryz.isAgg9 rfl rfl rfl (fun h => h)) ?_
  refine VOD.op rfl (OpED.call (v := .int .i64 (cmpB x.name y.name)) rfl rfl Tryz.call117 rfl (fun w A us h => by rw [argsV2 h]; exact strCmp_x _ _ w) ?_)
  refine VOD.val rfl rfl (OpV.move (.inr rfl) rfl) ?_
  refine VOD.nil ?_
  show VCD _ _ _ _ _
  refine VCD.ret ?_
  exact Exists.intro _ (And.intro (RetV.one Tryz.results138 (ResV.tmp rfl)) (by rw [cPr_ne (fun e => by rw [cmpB_eq] at e; simp_all [sEq_refl])]))
 ·have aH1 := aH1b
  try simp only [qqT, qqF, qqN, qqM, qqL, qqE] at aH1
  refine VCD.skip ?_
  show VCD _ _ _ _ _
  refine VCD.seq ?_
  refine VCD.region ?_
  refine VOD.val rfl rfl (OpV.fieldAddrO 1 rfl Tryz.underlying71 rfl rfl Tryz.sizeOf9 rfl) ?_
  refine VOD.val rfl rfl (OpV.load_own (i := 0) rfl hB Tryz.isAgg9 rfl rfl rfl (fun h => h)) ?_
  refine VOD.val rfl rfl (OpV.fieldAddrO 1 rfl Tryz.underlying71 rfl rfl Tryz.sizeOf9 rfl) ?_
  refine VOD.val rfl rfl (OpV.load_own (i := 1) rfl hB Tryz.isAgg9 rfl rfl rfl (fun h => h)) ?_
  refine VOD.op rfl (OpED.call (v := .int .i64 (cmpB x.value y.value)) rfl rfl Tryz.call117 rfl (fun w A us h => by rw [argsV2 h]; exact strCmp_x _ _ w) ?_)
  refine VOD.val rfl rfl (OpV.move (.inr rfl) rfl) ?_
  refine VOD.nil ?_
  show VCD _ _ _ _ _
  refine VCD.ret ?_
  exact Exists.intro _ (And.intro (RetV.one Tryz.results138 (ResV.tmp rfl)) (by rw [cPr_eq (cmpB_eq.2 (by simp_all [sEq_eq]))]))
set_option maxRecDepth 100000 in
set_option maxHeartbeats 8000000 in
theorem inspect_Escapes {l : List LookS} (hs : SmLk l) :
  SpecN Tryz.prog 32 [avL l] (fun y => y = .tup [avL (if lookF l = 0 then escS l else []), avI (lookF l)]) := by
 refine SpecN.of_VCN Tryz.func32 rfl Tryz.ntmps32 (Nle rfl) fun w A hB => ?_
 have hnew : True := trivial
 refine VC.seq ?_
 have hl := hs.len
 refine VC.region ?_
 refine VO.ma rfl rfl rfl rfl ?_
 refine VO.ma rfl rfl rfl rfl ?_
 refine VO.nil ?_
 refine VC.seq ?_
 refine VC.sr ?_
 refine VO.mv rfl rfl rfl rfl ?_
 refine VO.op rfl (OpE.call rfl hB rfl Tryz.call112 rfl (SpecN.spec (inspect_CheckLooks hs)) ?_)
 rintro _ rfl
 refine VO.ma rfl rfl rfl rfl ?_
 refine VO.nil ?_
 refine VC.sr ?_
 refine VO.mv rfl rfl rfl rfl ?_
 refine VO.val rfl rfl (OpV.neq rfl rfl rfl) ?_
 refine VO.nil ?_
 refine VC.cond rfl (fun h0b => ?_) (fun h0b => ?_)
 ·have h0 := h0b
  try simp only [qqT, qqF, qqN, qqM, qqL, qqE] at h0
  refine VC.sr ?_
  refine VO.mv rfl rfl rfl rfl ?_
  refine VO.ma rfl rfl rfl rfl ?_
  refine VO.ma rfl rfl rfl rfl ?_
  refine VO.nil ?_
  refine VC.ret ?_
  exact Exists.intro _ (And.intro (RetN.two Tryz.results32 (ResN.nilE rfl) (ResN.v rfl)) (by rw [if_neg h0]; rfl))
 ·have h0 := h0b
  try simp only [qqT, qqF, qqN, qqM, qqL, qqE] at h0
  refine VC.skip ?_
  refine VC.sr ?_
  refine VO.ma rfl rfl rfl rfl ?_
  refine VO.nil ?_
  refine VC.seq ?_
  refine VC.sr ?_
  refine VO.mv rfl rfl rfl rfl ?_
  refine VO.val rfl rfl (OpV.len_im rfl Tryz.underlying54 rfl) ?_
  refine VO.mv rfl rfl rfl rfl ?_
  refine VO.nil ?_
  refine VC.block ?_
  refine VC.le _ (Le.nilRow 2 71) ?_
  refine VC.loopK [(13, _), (14, _)] ⟨rfl, rfl, trivial⟩ ({z : Value × Nat // z.2 ≤ l.length}) (fun (iZ : {z : Value × Nat // z.2 ≤ l.length}) => match iZ with | ⟨⟨u, q⟩, hq⟩ => [(5, .v u), (15, avI (q : Int))]) (fun (iZ : {z : Value × Nat // z.2 ≤ l.length}) => match iZ with | ⟨⟨u, q⟩, hq⟩ => [.row u (escL (l.take q)).length 2 (rowL (escL (l.take q))) 71]) (fun (iZ : {z : Value × Nat // z.2 ≤ l.length}) => match iZ with | ⟨⟨u, q⟩, hq⟩ => 0) (fun (iZ : {z : Value × Nat // z.2 ≤ l.length}) => match iZ with | ⟨⟨u, q⟩, hq⟩ => l.length - q) ⟨(.slice none 0 0, 0), Nat.zero_le _⟩ (Le.mk hB [0] ⟨rfl, rfl, rfl, rfl, trivial⟩ rfl rfl (Nat.le_refl _)) ?_
  rintro ⟨⟨u, q⟩, hq⟩
  show VC _ _ _ _ ⟨[(5, .v u), (15, avI (q : Int))] ++ [(13, _), (14, _)], [.row u (escL (l.take q)).length 2 (rowL (escL (l.take q))) 71], 0⟩
  simp only at hq
  have hel := escL_len (l.take q)
  rw [List.length_take] at hel
  refine VC.sr ?_
  refine VO.val rfl rfl (OpV.lss rfl rfl rfl) ?_
  refine VO.nil ?_
  refine VC.seq ?_
  refine VC.cond rfl (fun aH1b => ?_) (fun aH1b => ?_)
  ·have aH1 := aH1b
   try simp only [qqT, qqF, qqN, qqM, qqL, qqE] at aH1
   refine VC.skip ?_
   refine VC.seq ?_
   refine VC.block ?_
   refine VC.sr ?_
   refine VO.val rfl rfl (OpV.indexAddr_E rfl Tryz.underlying54 Tryz.sizeOf80 rfl rfl rfl (by omega)) ?_
   refine VO.val rfl rfl (OpV.loadK_at rfl hB OutW.no Tryz.isAgg80 Tryz.sizeOf80 rfl rfl) ?_
   refine VO.op rfl (OpE.alloc rfl hB rfl Tryz.zeroValue80 rfl ?_)
   intro g7
   refine VO.op rfl (OpE.store (i := 1) rfl hB rfl Tryz.sizeOf80 rfl rfl rfl rfl rfl rfl (Nle rfl) trivial ?_)
   refine VO.nil ?_
   refine VC.sr ?_
   refine VO.val rfl rfl (OpV.fieldAddrO 4 rfl Tryz.underlying80 rfl rfl Tryz.sizeOf4 rfl) ?_
   refine VO.val rfl rfl (OpV.load_own (i := 1) rfl hB Tryz.isAgg4 rfl rfl rfl (fun h => h)) ?_
   refine VO.mv rfl rfl rfl rfl ?_
   refine VO.opG rfl rfl rfl rfl (fun aK2b => ?_) (fun aK2b => ?_)
   ·replace aK2b : _ = true := aK2b
    have aK2 := aK2b
    try simp only [qqT, qqF, qqN, qqM, qqL, qqE] at aK2
    refine OpE.val (W := NoB) (OpV.loadK_own (i := 1) rfl hB Tryz.isAgg80 Tryz.sizeOf80 rfl rfl rfl (fun h => h)) rfl ?_
    refine VO.opY rfl rfl rfl rfl aK2b ?_
    refine OpE.call rfl hB rfl Tryz.call113 rfl (SpecN.spec (inspect_isCalled)) ?_
    rintro _ rfl
    refine VO.opY rfl rfl rfl rfl aK2b ?_
    refine OpE.val (W := NoB) (OpV.not rfl rfl) rfl ?_
    refine VO.val rfl rfl (OpV.pickT rfl rfl rfl rfl aK2b) ?_
    refine VO.nil ?_
    refine VC.cond rfl (fun aH3b => ?_) (fun aH3b => ?_)
    ·have aH3 := aH3b
     try simp only [qqT, qqF, qqN, qqM, qqL, qqE] at aH3
     have hyes : isEs (l.getD q default) = true := by simp_all [isEs, isC]
     refine VC.region ?_
     refine VO.mv rfl rfl rfl rfl ?_
     refine VO.val rfl rfl (OpV.fieldAddrO 0 rfl Tryz.underlying80 rfl rfl Tryz.sizeOf9 rfl) ?_
     refine VO.val rfl rfl (OpV.load_own (i := 1) rfl hB Tryz.isAgg9 rfl rfl rfl (fun h => h)) ?_
     refine VO.val rfl rfl (OpV.fieldAddrO 1 rfl Tryz.underlying80 rfl rfl Tryz.sizeOf9 rfl) ?_
     refine VO.val rfl rfl (OpV.load_own (i := 1) rfl hB Tryz.isAgg9 rfl rfl rfl (fun h => h)) ?_
     refine VO.val rfl rfl (OpV.build (pls := #[(0, 1), (1, 1)]) rfl Tryz.zeroValue71 Tryz.underlying71 (fun w => by kernel_rfl) rfl rfl) ?_
     refine VO.op rfl (OpE.buildSlice (zc := #[.string ⟨#[]⟩, .string ⟨#[]⟩]) rfl hB rfl Tryz.underlying56 Tryz.sizeOf71 Tryz.zeroValue71 (by decide) (by decide) (by kernel_rfl) rfl rfl ?_)
     refine VO.op rfl (OpE.append1 (i := 0) rfl hB rfl Tryz.underlying56 (infoOf Tryz.t71 2 (by kernel_rfl) rfl rfl) rfl (by decide) (by decide) rfl rfl rfl rfl (rowL_snoc _ (esOf (l.getD q default))) (by omega) (fun _ _ => trivial) ?_)
     intro u33
     refine VO.ma rfl rfl rfl rfl ?_
     refine VO.nil ?_
     refine VC.region ?_
     refine VO.val rfl rfl (OpV.add rfl rfl rfl (by unfold fits; omega)) ?_
     refine VO.mv rfl rfl rfl rfl ?_
     refine VO.nil ?_
     exact Exists.intro (⟨(u33, q + 1), by show q + 1 ≤ _; omega⟩) (And.intro (Le.mk hB [0] ⟨rfl, rfl, rfl, rfl, trivial⟩ rfl (by dsimp only; first | (rw [escL_yes (by omega) hyes, List.length_append]; rfl) | (rw [escL_no (by omega) hno]; rfl)) (Nat.le_refl _)) (by first | omega | (show _ < _; omega) | (simp only []; omega)))
    ·have aH3 := aH3b
     try simp only [qqT, qqF, qqN, qqM, qqL, qqE] at aH3
     have hno : isEs (l.getD q default) = false := by simp_all [isEs, isC]
     refine VC.skip ?_
     refine VC.region ?_
     refine VO.val rfl rfl (OpV.add rfl rfl rfl (by unfold fits; omega)) ?_
     refine VO.mv rfl rfl rfl rfl ?_
     refine VO.nil ?_
     exact Exists.intro (⟨(u, q + 1), by show q + 1 ≤ _; omega⟩) (And.intro (Le.mk hB [0] ⟨rfl, rfl, rfl, rfl, trivial⟩ rfl (by dsimp only; first | (rw [escL_yes (by omega) hyes, List.length_append]; rfl) | (rw [escL_no (by omega) hno]; rfl)) (Nat.le_refl _)) (by first | omega | (show _ < _; omega) | (simp only []; omega)))
   ·replace aK2b : _ = false := aK2b
    have aK2 := aK2b
    try simp only [qqT, qqF, qqN, qqM, qqL, qqE] at aK2
    refine VO.opX rfl rfl rfl rfl aK2b ?_
    refine VO.opX rfl rfl rfl rfl aK2b ?_
    refine VO.val rfl rfl (OpV.pickF rfl rfl rfl rfl aK2b) ?_
    refine VO.nil ?_
    refine VC.condF rfl rfl ?_
    have hno : isEs (l.getD q default) = false := by simp_all [isEs, isC]
    refine VC.skip ?_
    refine VC.region ?_
    refine VO.val rfl rfl (OpV.add rfl rfl rfl (by unfold fits; omega)) ?_
    refine VO.mv rfl rfl rfl rfl ?_
    refine VO.nil ?_
    exact Exists.intro (⟨(u, q + 1), by show q + 1 ≤ _; omega⟩) (And.intro (Le.mk hB [0] ⟨rfl, rfl, rfl, rfl, trivial⟩ rfl (by dsimp only; first | (rw [escL_yes (by omega) hyes, List.length_append]; rfl) | (rw [escL_no (by omega) hno]; rfl)) (Nat.le_refl _)) (by first | omega | (show _ < _; omega) | (simp only []; omega)))
  ·have aH1 := aH1b
   try simp only [qqT, qqF, qqN, qqM, qqL, qqE] at aH1
   obtain rfl : q = l.length := by omega
   rw [List.take_length]
   refine VC.exit ?_
   refine VC.sr ?_
   refine VO.mv rfl rfl rfl rfl ?_
   refine VO.op rfl (OpE.callH0 rfl hB rfl Tryz.call114 rfl rfl (sortFunc_pr (l := escL l) (F := 115) (by have := escL_len l; omega) Tryz.call115 (fun x y w A us h => inspect_Escapes1_d w A us h)) (List.Perm.refl _) (fun _ _ => trivial) ?_)
   rintro _ _ ⟨rfl, rfl⟩
   refine VO.nil ?_
   refine VC.sr ?_
   refine VO.mv rfl rfl rfl rfl ?_
   refine VO.ma rfl rfl rfl rfl ?_
   refine VO.ma rfl rfl rfl rfl ?_
   refine VO.nil ?_
   refine VC.ret ?_
   exact Exists.intro _ (And.intro (RetN.two Tryz.results32 (ResN.rowT (i := 0) (xs := escS l) rfl rfl (sortPr_len _).symm (flat_pairs _)) (ResN.v rfl)) (by rw [if_pos (by omega), show lookF l = 0 by omega]))
set_option maxRecDepth 100000 in
theorem rf_EscapesOf1 {x : LookS}  :
  SpecH Tryz.prog 137 [avT x] [] (fun y hp' => y = avB (isEs x) ∧ hp' = []) := by
 refine SpecH.of_VC Tryz.func137 rfl Tryz.ntmps137 (Nle rfl) fun w A hB => ?_
 have hnew : True := trivial
 refine VC.sr ?_
 refine VO.op rfl (OpE.box rfl hB rfl rfl rfl ?_)
 intro g1
 refine VO.ma rfl rfl rfl rfl ?_
 refine VO.nil ?_
 refine VC.sr ?_
 refine VO.val rfl rfl (OpV.fieldAddrO 4 rfl Tryz.underlying80 rfl rfl Tryz.sizeOf4 rfl) ?_
 refine VO.val rfl rfl (OpV.load_own (i := 0) rfl hB Tryz.isAgg4 rfl rfl rfl (fun h => h)) ?_
 refine VO.mv rfl rfl rfl rfl ?_
 refine VO.opG rfl rfl rfl rfl (fun aK1b => ?_) (fun aK1b => ?_)
 ·replace aK1b : _ = true := aK1b
  have aK1 := aK1b
  try simp only [qqT, qqF, qqN, qqM, qqL, qqE] at aK1
  refine OpE.val (W := NoB) (OpV.fieldAddrO 3 rfl Tryz.underlying80 rfl rfl Tryz.sizeOf3 rfl) rfl ?_
  refine VO.opY rfl rfl rfl rfl aK1b ?_
  refine OpE.val (W := NoB) (OpV.load_own (i := 0) rfl hB Tryz.isAgg3 rfl rfl rfl (fun h => h)) rfl ?_
  refine VO.opY rfl rfl rfl rfl aK1b ?_
  refine OpE.val (W := NoB) (OpV.eql rfl rfl rfl) rfl ?_
  refine VO.val rfl rfl (OpV.pickT rfl rfl rfl rfl aK1b) ?_
  refine VO.ma rfl rfl rfl rfl ?_
  refine VO.nil ?_
  refine VC.le _ (Le.drop 1) ?_
  refine VC.ret ?_
  exact Exists.intro _ (And.intro (RetV.one Tryz.results137 (ResV.tmp rfl)) (⟨by unfold isEs; simp_all, rfl⟩))
 ·replace aK1b : _ = false := aK1b
  have aK1 := aK1b
  try simp only [qqT, qqF, qqN, qqM, qqL, qqE] at aK1
  refine VO.opX rfl rfl rfl rfl aK1b ?_
  refine VO.opX rfl rfl rfl rfl aK1b ?_
  refine VO.val rfl rfl (OpV.pickF rfl rfl rfl rfl aK1b) ?_
  refine VO.ma rfl rfl rfl rfl ?_
  refine VO.nil ?_
  refine VC.le _ (Le.drop 1) ?_
  refine VC.ret ?_
  exact Exists.intro _ (And.intro (RetV.one Tryz.results137 (ResV.tmp rfl)) (⟨by unfold isEs; simp_all, rfl⟩))
theorem esMap_take {m : List LookS} {q : Nat} (h : q < m.length) : (m.take (q + 1)).map esOf = (m.take q).map esOf ++ [esOf (m.getD q default)] := by
 have : m.take (q + 1) = m.take q ++ [m.getD q default] := by
  rw [List.take_succ_eq_append_getElem h]; simp [List.getD_eq_getElem?_getD, h]
 rw [this, List.map_append]; rfl
set_option maxRecDepth 100000 in
set_option maxHeartbeats 8000000 in
theorem rf_EscapesOf {l : List LookS} (hl : l.length ≤ 1000000) :
  SpecN Tryz.prog 39 [avL l] (fun y => y = avL (escS l)) := by
 refine SpecN.of_VCN Tryz.func39 rfl Tryz.ntmps39 (Nle rfl) fun w A hB => ?_
 have hnew : True := trivial
 refine VC.sr ?_
 refine VO.ma rfl rfl rfl rfl ?_
 refine VO.nil ?_
 refine VC.sr ?_
 refine VO.ma rfl rfl rfl rfl ?_
 refine VO.nil ?_
 refine VC.seq ?_
 refine VC.sr ?_
 refine VO.mv rfl rfl rfl rfl ?_
 refine VO.op rfl (OpE.callH0 rfl hB rfl Tryz.call136 rfl rfl (rf_which (l := l) (hpC := []) (p := isEs) hl Tryz.call137 (fun x => rf_EscapesOf1)) (List.Perm.refl _) (fun _ _ => trivial) ?_)
 rintro _ _ ⟨u7, rfl, rfl⟩
 have hfl : (l.filter isEs).length ≤ l.length := List.length_filter_le _ _
 obtain ⟨m, hm⟩ : ∃ m, l.filter isEs = m := ⟨_, rfl⟩
 rw [hm] at hfl ⊢
 refine VO.le _ (Le.rowT (t := 7) (xs := m) (i := 0) hB hnew rfl rfl rfl) ?_
 refine VO.val rfl rfl (OpV.len_im rfl Tryz.underlying54 rfl) ?_
 refine VO.mv rfl rfl rfl rfl ?_
 refine VO.nil ?_
 refine VC.block ?_
 refine VC.le _ (Le.nilRow 2 71) ?_
 refine VC.loopK [(7, _), (8, _)] ⟨rfl, rfl, trivial⟩ ({z : Value × Nat // z.2 ≤ m.length}) (fun (iZ : {z : Value × Nat // z.2 ≤ m.length}) => match iZ with | ⟨⟨u, q⟩, hq⟩ => [(3, .v u), (9, avI (q : Int))]) (fun (iZ : {z : Value × Nat // z.2 ≤ m.length}) => match iZ with | ⟨⟨u, q⟩, hq⟩ => [.row u ((m.take q).map esOf).length 2 (rowL ((m.take q).map esOf)) 71]) (fun (iZ : {z : Value × Nat // z.2 ≤ m.length}) => match iZ with | ⟨⟨u, q⟩, hq⟩ => 0) (fun (iZ : {z : Value × Nat // z.2 ≤ m.length}) => match iZ with | ⟨⟨u, q⟩, hq⟩ => m.length - q) ⟨(.slice none 0 0, 0), Nat.zero_le _⟩ (Le.mk hB [0] ⟨rfl, rfl, rfl, rfl, trivial⟩ rfl rfl (Nat.le_refl _)) ?_
 rintro ⟨⟨u, q⟩, hq⟩
 show VC _ _ _ _ ⟨[(3, .v u), (9, avI (q : Int))] ++ [(7, _), (8, _)], [.row u ((m.take q).map esOf).length 2 (rowL ((m.take q).map esOf)) 71], 0⟩
 simp only at hq
 have hel : ((m.take q).map esOf).length ≤ m.length := by { rw [List.length_map, List.length_take]; omega }
 refine VC.sr ?_
 refine VO.val rfl rfl (OpV.lss rfl rfl rfl) ?_
 refine VO.nil ?_
 refine VC.seq ?_
 refine VC.cond rfl (fun aH1b => ?_) (fun aH1b => ?_)
 ·have aH1 := aH1b
  try simp only [qqT, qqF, qqN, qqM, qqL, qqE] at aH1
  refine VC.skip ?_
  refine VC.seq ?_
  refine VC.block ?_
  refine VC.sr ?_
  refine VO.val rfl rfl (OpV.indexAddr_E rfl Tryz.underlying54 Tryz.sizeOf80 rfl rfl rfl (by omega)) ?_
  refine VO.val rfl rfl (OpV.loadK_at rfl hB OutW.no Tryz.isAgg80 Tryz.sizeOf80 rfl rfl) ?_
  refine VO.op rfl (OpE.alloc rfl hB rfl Tryz.zeroValue80 rfl ?_)
  intro g5
  refine VO.op rfl (OpE.store (i := 1) rfl hB rfl Tryz.sizeOf80 rfl rfl rfl rfl rfl rfl (Nle rfl) trivial ?_)
  refine VO.nil ?_
  refine VC.region ?_
  refine VO.mv rfl rfl rfl rfl ?_
  refine VO.val rfl rfl (OpV.fieldAddrO 0 rfl Tryz.underlying80 rfl rfl Tryz.sizeOf9 rfl) ?_
  refine VO.val rfl rfl (OpV.load_own (i := 1) rfl hB Tryz.isAgg9 rfl rfl rfl (fun h => h)) ?_
  refine VO.val rfl rfl (OpV.fieldAddrO 1 rfl Tryz.underlying80 rfl rfl Tryz.sizeOf9 rfl) ?_
  refine VO.val rfl rfl (OpV.load_own (i := 1) rfl hB Tryz.isAgg9 rfl rfl rfl (fun h => h)) ?_
  refine VO.val rfl rfl (OpV.build (pls := #[(0, 1), (1, 1)]) rfl Tryz.zeroValue71 Tryz.underlying71 (fun w => by kernel_rfl) rfl rfl) ?_
  refine VO.op rfl (OpE.buildSlice (zc := #[.string ⟨#[]⟩, .string ⟨#[]⟩]) rfl hB rfl Tryz.underlying56 Tryz.sizeOf71 Tryz.zeroValue71 (by decide) (by decide) (by kernel_rfl) rfl rfl ?_)
  refine VO.op rfl (OpE.append1 (i := 0) rfl hB rfl Tryz.underlying56 (infoOf Tryz.t71 2 (by kernel_rfl) rfl rfl) rfl (by decide) (by decide) rfl rfl rfl rfl (rowL_snoc _ (esOf (m.getD q default))) (by omega) (fun _ _ => trivial) ?_)
  intro u20
  refine VO.ma rfl rfl rfl rfl ?_
  refine VO.nil ?_
  refine VC.region ?_
  refine VO.val rfl rfl (OpV.add rfl rfl rfl (by unfold fits; omega)) ?_
  refine VO.mv rfl rfl rfl rfl ?_
  refine VO.nil ?_
  exact Exists.intro (⟨(u20, q + 1), by show q + 1 ≤ _; omega⟩) (And.intro (Le.mk hB [0] ⟨rfl, rfl, rfl, rfl, trivial⟩ rfl (by dsimp only; rw [esMap_take (by omega), List.length_append]; rfl) (Nat.le_refl _)) (by first | omega | (show _ < _; omega) | (simp only []; omega)))
 ·have aH1 := aH1b
  try simp only [qqT, qqF, qqN, qqM, qqL, qqE] at aH1
  obtain rfl : q = m.length := by omega
  rw [List.take_length]
  refine VC.exit ?_
  refine VC.sr ?_
  refine VO.mv rfl rfl rfl rfl ?_
  refine VO.op rfl (OpE.callH0 rfl hB rfl Tryz.call114 rfl rfl (sortFunc_pr (l := m.map esOf) (F := 138) (by rw [List.length_map]; omega) Tryz.call138 (fun x y w A us h => rf_EscapesOf2_d w A us h)) (List.Perm.refl _) (fun _ _ => trivial) ?_)
  rintro _ _ ⟨rfl, rfl⟩
  refine VO.nil ?_
  refine VC.sr ?_
  refine VO.mv rfl rfl rfl rfl ?_
  refine VO.ma rfl rfl rfl rfl ?_
  refine VO.nil ?_
  refine VC.ret ?_
  exact Exists.intro _ (And.intro (RetN.one Tryz.results39 (ResN.rowT (i := 0) (xs := sortPr (m.map esOf)) rfl rfl (sortPr_len _).symm (flat_pairs _))) (by rw [← hm]; rfl))
end Go.Proofs.YtdnlhdilpdeecaaGreatDoor
namespace Go.Proofs.YtdnlhdilpdeecaaGreatDoor
open Go.RowKit
set_option linter.unusedVariables false
set_option linter.unusedSimpArgs false
set_option maxRecDepth 100000 in
set_option maxHeartbeats 2000000 in
theorem insSort_rw {l0 : List NeedS} {u : Value} {ty : TypeId} {F : FuncId} {cs : List AV} {c : NeedS → NeedS → Int} (hl : l0.length ≤ 1000000) (hcall : ∀ us w, (callFunc F us).run Tryz.prog w = .ok (.enter F us) w) (hF : ∀ x y, Spec Tryz.prog F ([avNd x, avNd y] ++ cs) (fun z => z = avI (c x y))) (ht : ∀ {a b d : NeedS}, decide (c a b < 0) = true → decide (c b d < 0) = true → decide (c a d < 0) = true) (ha : ∀ {a b : NeedS}, decide (c a b < 0) = true → decide (c b a < 0) = false) (hn : ∀ {a b d : NeedS}, decide (c b a < 0) = false → decide (c d b < 0) = false → decide (c d a < 0) = false) :
  SpecH Tryz.prog 273 [.v u, avI 0, avI l0.length, .fn F cs] [.row u l0.length 2 (rowL l0) ty] (fun y hp' => ∃ l, (l.Perm l0 ∧ OrdL (fun x y => decide (c x y < 0)) l) ∧ y = .tup [] ∧ hp' = [.row u l0.length 2 (rowL l) ty]) := by
 refine SpecH.of_VC Tryz.func273 rfl Tryz.ntmps273 (Nle rfl) fun w A hB => ?_
 have hnew : True := trivial
 refine VC.sr ?_
 refine VO.mv rfl rfl rfl rfl ?_
 refine VO.val rfl rfl (OpV.add rfl rfl rfl (by unfold fits; omega)) ?_
 refine VO.ma rfl rfl rfl rfl ?_
 refine VO.nil ?_
 refine VC.block ?_
 refine VC.loopK [(0, _), (1, _), (2, _), (3, _)] ⟨rfl, rfl, rfl, rfl, trivial⟩ ({z : Nat × List NeedS // InvO (fun x y => decide (c x y < 0)) l0 z.1 z.2 ∧ 0 < z.1 ∧ z.1 ≤ max 1 l0.length}) (fun (iZ : {z : Nat × List NeedS // InvO (fun x y => decide (c x y < 0)) l0 z.1 z.2 ∧ 0 < z.1 ∧ z.1 ≤ max 1 l0.length}) => match iZ with | ⟨⟨i, l⟩, hi, hi0, hin⟩ => [(8, avI (i : Int))]) (fun (iZ : {z : Nat × List NeedS // InvO (fun x y => decide (c x y < 0)) l0 z.1 z.2 ∧ 0 < z.1 ∧ z.1 ≤ max 1 l0.length}) => match iZ with | ⟨⟨i, l⟩, hi, hi0, hin⟩ => [.row u l0.length 2 (rowL l) ty]) (fun (iZ : {z : Nat × List NeedS // InvO (fun x y => decide (c x y < 0)) l0 z.1 z.2 ∧ 0 < z.1 ∧ z.1 ≤ max 1 l0.length}) => match iZ with | ⟨⟨i, l⟩, hi, hi0, hin⟩ => 0) (fun (iZ : {z : Nat × List NeedS // InvO (fun x y => decide (c x y < 0)) l0 z.1 z.2 ∧ 0 < z.1 ∧ z.1 ≤ max 1 l0.length}) => match iZ with | ⟨⟨i, l⟩, hi, hi0, hin⟩ => l0.length - i) ⟨(1, l0), InvO.one l0, Nat.one_pos, by show 1 ≤ _; omega⟩ (Le.mk hB [0] ⟨rfl, rfl, rfl, rfl, rfl, trivial⟩ rfl rfl (Nat.le_refl _)) ?_
 rintro ⟨⟨i, l⟩, hi, hi0, hin⟩
 show VC _ _ _ _ ⟨[(8, avI (i : Int))] ++ [(0, _), (1, _), (2, _), (3, _)], [.row u l0.length 2 (rowL l) ty], 0⟩
 simp only at hi hi0 hin
 have hll := hi.len
 refine VC.seq ?_
 refine VC.sr ?_
 refine VO.mv rfl rfl rfl rfl ?_
 refine VO.mv rfl rfl rfl rfl ?_
 refine VO.val rfl rfl (OpV.lss rfl rfl rfl) ?_
 refine VO.nil ?_
 refine VC.cond rfl (fun aH1b => ?_) (fun aH1b => ?_)
 ·have aH1 := aH1b
  try simp only [qqT, qqF, qqN, qqM, qqL, qqE] at aH1
  refine VC.skip ?_
  refine VC.seq ?_
  refine VC.block ?_
  refine VC.sr ?_
  refine VO.mv rfl rfl rfl rfl ?_
  refine VO.ma rfl rfl rfl rfl ?_
  refine VO.nil ?_
  refine VC.block ?_
  refine VC.asBox (i := 0) rfl (by omega) (fun g cap hu hcap hmx => ?_)
  subst hu
  refine VC.loopK [(0, _), (1, _), (2, _), (3, _), (8, _)] ⟨rfl, rfl, rfl, rfl, rfl, trivial⟩ ({z : Nat × List NeedS // InvI (fun x y => decide (c x y < 0)) l0 i z.1 z.2}) (fun (iZ : {z : Nat × List NeedS // InvI (fun x y => decide (c x y < 0)) l0 i z.1 z.2}) => match iZ with | ⟨⟨j, l2⟩, hI⟩ => [(9, avI (j : Int))]) (fun (iZ : {z : Nat × List NeedS // InvI (fun x y => decide (c x y < 0)) l0 i z.1 z.2}) => match iZ with | ⟨⟨j, l2⟩, hI⟩ => [.box g ⟨rowL l2, ty, cap * 2⟩]) (fun (iZ : {z : Nat × List NeedS // InvI (fun x y => decide (c x y < 0)) l0 i z.1 z.2}) => match iZ with | ⟨⟨j, l2⟩, hI⟩ => 0) (fun (iZ : {z : Nat × List NeedS // InvI (fun x y => decide (c x y < 0)) l0 i z.1 z.2}) => match iZ with | ⟨⟨j, l2⟩, hI⟩ => j) ⟨(i, l), hi.start (by omega)⟩ (Le.mk hB [0] ⟨rfl, rfl, rfl, rfl, rfl, rfl, trivial⟩ rfl rfl (Nat.le_refl _)) ?_
  rintro ⟨⟨j, l2⟩, hI⟩
  show VC _ _ _ _ ⟨[(9, avI (j : Int))] ++ [(0, _), (1, _), (2, _), (3, _), (8, _)], [.box g ⟨rowL l2, ty, cap * 2⟩], 0⟩
  simp only at hI
  obtain ⟨hlen2, hil, hji⟩ := hI.len
  refine VC.seq ?_
  refine VC.seq ?_
  refine VC.draw (fun _ => NoB) hB (by kernel_rfl) ?_
  refine VA.take (i := 0) rfl (by kernel_rfl) (by kernel_rfl) (by kernel_rfl) rfl rfl (OpV.move (.inl rfl) rfl) ?_
  refine VA.take (i := 1) rfl (by kernel_rfl) (by kernel_rfl) (by kernel_rfl) rfl rfl (OpV.move (.inl rfl) rfl) ?_
  refine VA.take (i := 2) rfl (by kernel_rfl) (by kernel_rfl) (by kernel_rfl) rfl rfl (OpV.gtr rfl rfl rfl) ?_
  refine VA.take (i := 3) rfl (by kernel_rfl) (by kernel_rfl) (by kernel_rfl) rfl rfl (OpV.move (.inl rfl) rfl) ?_
  refine VA.split (t := 21) rfl (fun aK2b => ?_) (fun aK2b => ?_)
  ·have aK2 := aK2b
   try simp only [qqT, qqF, qqN, qqM, qqL, qqE] at aK2
   refine VA.takeY (i := 4) rfl (by kernel_rfl) (by kernel_rfl) (by kernel_rfl) rfl rfl rfl rfl aK2b (OpV.move (.inl rfl) rfl) ?_
   refine VA.takeY (i := 5) rfl (by kernel_rfl) (by kernel_rfl) (by kernel_rfl) rfl rfl rfl rfl aK2b (OpV.move (.inl rfl) rfl) ?_
   refine VA.takeY (i := 6) rfl (by kernel_rfl) (by kernel_rfl) (by kernel_rfl) rfl rfl rfl rfl aK2b (OpV.move (.inl rfl) rfl) ?_
   refine VA.takeY (i := 7) rfl (by kernel_rfl) (by kernel_rfl) (by kernel_rfl) rfl rfl rfl rfl aK2b (OpV.indexAddr_q rfl Tryz.underlying164 Tryz.sizeOf166 rfl rfl rfl (by omega)) ?_
   refine VA.takeY (i := 8) rfl (by kernel_rfl) (by kernel_rfl) (by kernel_rfl) rfl rfl rfl rfl aK2b (OpV.loadK_own (i := 0) rfl hB Tryz.isAgg166 Tryz.sizeOf166 rfl rfl (rowL_cut rfl (by omega)) Wi.not0) ?_
   refine VA.takeY (i := 9) rfl (by kernel_rfl) (by kernel_rfl) (by kernel_rfl) rfl rfl rfl rfl aK2b (OpV.move (.inl rfl) rfl) ?_
   refine VA.takeY (i := 10) rfl (by kernel_rfl) (by kernel_rfl) (by kernel_rfl) rfl rfl rfl rfl aK2b (OpV.move (.inl rfl) rfl) ?_
   refine VA.takeY (i := 11) rfl (by kernel_rfl) (by kernel_rfl) (by kernel_rfl) rfl rfl rfl rfl aK2b (OpV.sub rfl rfl rfl (by unfold fits; omega)) ?_
   refine VA.takeY (i := 12) rfl (by kernel_rfl) (by kernel_rfl) (by kernel_rfl) rfl rfl rfl rfl aK2b (OpV.indexAddr_q rfl Tryz.underlying164 Tryz.sizeOf166 rfl rfl (show (j : Int) - 1 = ((j - 1 : Nat) : Int) by omega) (by omega)) ?_
   refine VA.takeY (i := 13) rfl (by kernel_rfl) (by kernel_rfl) (by kernel_rfl) rfl rfl rfl rfl aK2b (OpV.loadK_own (i := 0) rfl hB Tryz.isAgg166 Tryz.sizeOf166 rfl rfl (rowL_cut rfl (by omega)) Wi.not0) ?_
   refine VA.all (rs := [14]) (by kernel_rfl) (by decide) ?_
   refine ⟨⟨_, rfl, .inr ⟨_, _, _, rfl, rfl, (look_k rfl aK2b)⟩, ?_⟩, trivial⟩
   refine OpE.callF rfl hB rfl hcall rfl rfl (hF _ _) ?_
   rintro _ rfl
   refine VA.takeY (i := 15) rfl (by kernel_rfl) (by kernel_rfl) (by kernel_rfl) rfl rfl rfl rfl aK2b (OpV.lss rfl rfl rfl) ?_
   refine VA.take (i := 16) rfl (by kernel_rfl) (by kernel_rfl) (by kernel_rfl) rfl rfl (OpV.pickT rfl rfl rfl rfl aK2b) ?_
   refine VA.done (by kernel_rfl) ?_
   refine VC.cond rfl (fun hcb => ?_) (fun hcb => ?_)
   ·have hc := hcb
    try simp only [qqT, qqF, qqN, qqM, qqL, qqE] at hc
    refine VC.skip ?_
    refine VC.seq ?_
    refine VC.block ?_
    refine VC.draw (fun j b => j ∈ [15, 17] ∧ b = g) hB (by kernel_rfl) ?_
    refine VA.take (i := 0) rfl (by kernel_rfl) (by kernel_rfl) (by kernel_rfl) rfl rfl (OpV.move (.inl rfl) rfl) ?_
    refine VA.take (i := 1) rfl (by kernel_rfl) (by kernel_rfl) (by kernel_rfl) rfl rfl (OpV.move (.inl rfl) rfl) ?_
    refine VA.take (i := 2) rfl (by kernel_rfl) (by kernel_rfl) (by kernel_rfl) rfl rfl (OpV.move (.inl rfl) rfl) ?_
    refine VA.take (i := 3) rfl (by kernel_rfl) (by kernel_rfl) (by kernel_rfl) rfl rfl (OpV.move (.inl rfl) rfl) ?_
    refine VA.take (i := 4) rfl (by kernel_rfl) (by kernel_rfl) (by kernel_rfl) rfl rfl (OpV.sub rfl rfl rfl (by unfold fits; omega)) ?_
    refine VA.take (i := 5) rfl (by kernel_rfl) (by kernel_rfl) (by kernel_rfl) rfl rfl (OpV.move (.inl rfl) rfl) ?_
    refine VA.take (i := 6) rfl (by kernel_rfl) (by kernel_rfl) (by kernel_rfl) rfl rfl (OpV.move (.inl rfl) rfl) ?_
    refine VA.take (i := 7) rfl (by kernel_rfl) (by kernel_rfl) (by kernel_rfl) rfl rfl (OpV.sub rfl rfl rfl (by unfold fits; omega)) ?_
    refine VA.take (i := 8) rfl (by kernel_rfl) (by kernel_rfl) (by kernel_rfl) rfl rfl (OpV.indexAddr_q rfl Tryz.underlying164 Tryz.sizeOf166 rfl rfl (show (j : Int) - 1 = ((j - 1 : Nat) : Int) by omega) (by omega)) ?_
    refine VA.take (i := 9) rfl (by kernel_rfl) (by kernel_rfl) (by kernel_rfl) rfl rfl (OpV.loadK_own (i := 0) rfl hB Tryz.isAgg166 Tryz.sizeOf166 rfl rfl (rowL_cut rfl (by omega)) (Wi.notD (by kernel_rfl))) ?_
    refine VA.take (i := 10) rfl (by kernel_rfl) (by kernel_rfl) (by kernel_rfl) rfl rfl (OpV.move (.inl rfl) rfl) ?_
    refine VA.take (i := 11) rfl (by kernel_rfl) (by kernel_rfl) (by kernel_rfl) rfl rfl (OpV.move (.inl rfl) rfl) ?_
    refine VA.take (i := 12) rfl (by kernel_rfl) (by kernel_rfl) (by kernel_rfl) rfl rfl (OpV.indexAddr_q rfl Tryz.underlying164 Tryz.sizeOf166 rfl rfl rfl (by omega)) ?_
    refine VA.take (i := 13) rfl (by kernel_rfl) (by kernel_rfl) (by kernel_rfl) rfl rfl (OpV.loadK_own (i := 0) rfl hB Tryz.isAgg166 Tryz.sizeOf166 rfl rfl (rowL_cut rfl (by omega)) (Wi.notD (by kernel_rfl))) ?_
    refine VA.take (i := 14) rfl (by kernel_rfl) (by kernel_rfl) (by kernel_rfl) rfl rfl (OpV.indexAddr_q rfl Tryz.underlying164 Tryz.sizeOf166 rfl rfl rfl (by omega)) ?_
    refine VA.all (rs := [15]) (by kernel_rfl) (by decide) ?_
    refine ⟨⟨_, rfl, .inl rfl, ?_⟩, trivial⟩
    refine OpE.storeE (i := 0) rfl hB rfl Tryz.sizeOf166 rfl rfl rfl rfl rfl rfl (rowL_inE rfl (by omega)) (rowL_setAll (x := l2.getD (j - 1) default) rfl (by omega)) (by first | exact ⟨rfl, rfl⟩ | exact .inl ⟨rfl, rfl⟩ | exact .inr ⟨rfl, rfl⟩ | exact ⟨rfl, trivial⟩ | exact .inl ⟨rfl, trivial⟩ | exact .inr ⟨rfl, trivial⟩ | exact ⟨by decide, rfl⟩) ?_
    refine VA.take (i := 16) rfl (by kernel_rfl) (by kernel_rfl) (by kernel_rfl) rfl rfl (OpV.indexAddr_q rfl Tryz.underlying164 Tryz.sizeOf166 rfl rfl (show (j : Int) - 1 = ((j - 1 : Nat) : Int) by omega) (by omega)) ?_
    refine VA.all (rs := [17]) (by kernel_rfl) (by decide) ?_
    refine ⟨⟨_, rfl, .inl rfl, ?_⟩, trivial⟩
    refine OpE.storeE (i := 0) rfl hB rfl Tryz.sizeOf166 rfl rfl rfl rfl rfl rfl (rowL_inE rfl (by rw [List.length_set]; omega)) (rowL_setAll (x := l2.getD j default) rfl (by rw [List.length_set]; omega)) (by first | exact ⟨rfl, rfl⟩ | exact .inl ⟨rfl, rfl⟩ | exact .inr ⟨rfl, rfl⟩ | exact ⟨rfl, trivial⟩ | exact .inl ⟨rfl, trivial⟩ | exact .inr ⟨rfl, trivial⟩ | exact ⟨by decide, rfl⟩) ?_
    refine VA.done (by kernel_rfl) ?_
    refine VC.region ?_
    refine VO.mv rfl rfl rfl rfl ?_
    refine VO.val rfl rfl (OpV.sub rfl rfl rfl (by unfold fits; omega)) ?_
    refine VO.ma rfl rfl rfl rfl ?_
    refine VO.nil ?_
    exact Exists.intro (⟨(j - 1, (l2.set j (l2.getD (j - 1) default)).set (j - 1) (l2.getD j default)), hI.next ht (by omega) (decide_eq_true hc)⟩) (And.intro (Le.mk hB [0] ⟨(by rw [show ((j - 1 : Nat) : Int) = (j : Int) - 1 by omega]; rfl), rfl, rfl, rfl, rfl, rfl, trivial⟩ rfl rfl (Nat.le_refl _)) (by first | omega | (show _ < _; omega) | (simp only []; omega)))
   ·have hc := hcb
    try simp only [qqT, qqF, qqN, qqM, qqL, qqE] at hc
    have hex : j = 0 ∨ decide (c (l2.getD j default) (l2.getD (j - 1) default) < 0) = false := by first | exact .inl (by omega) | exact .inr (decide_eq_false (by omega))
    refine VC.le _ (Le.boxRow (i := 0) (n := l0.length) rfl (by rw [rowL_len, hlen2]; rfl) hcap hmx) ?_
    refine VC.exit ?_
    refine VC.region ?_
    refine VO.mv rfl rfl rfl rfl ?_
    refine VO.val rfl rfl (OpV.add rfl rfl rfl (by unfold fits; omega)) ?_
    refine VO.ma rfl rfl rfl rfl ?_
    refine VO.nil ?_
    exact Exists.intro (⟨(i + 1, l2), hI.done ha hn hex, Nat.succ_pos _, by show i + 1 ≤ _; omega⟩) (And.intro (Le.mk hB [0] ⟨rfl, rfl, rfl, rfl, rfl, trivial⟩ rfl (by first | rfl | assumption) (Nat.le_refl _)) (by first | omega | (show _ < _; omega) | (simp only []; omega)))
  ·have aK2 := aK2b
   try simp only [qqT, qqF, qqN, qqM, qqL, qqE] at aK2
   refine VA.takeX (i := 4) rfl (by kernel_rfl) (by kernel_rfl) (by kernel_rfl) rfl rfl rfl rfl aK2b ?_
   refine VA.takeX (i := 5) rfl (by kernel_rfl) (by kernel_rfl) (by kernel_rfl) rfl rfl rfl rfl aK2b ?_
   refine VA.takeX (i := 6) rfl (by kernel_rfl) (by kernel_rfl) (by kernel_rfl) rfl rfl rfl rfl aK2b ?_
   refine VA.takeX (i := 7) rfl (by kernel_rfl) (by kernel_rfl) (by kernel_rfl) rfl rfl rfl rfl aK2b ?_
   refine VA.takeX (i := 8) rfl (by kernel_rfl) (by kernel_rfl) (by kernel_rfl) rfl rfl rfl rfl aK2b ?_
   refine VA.takeX (i := 9) rfl (by kernel_rfl) (by kernel_rfl) (by kernel_rfl) rfl rfl rfl rfl aK2b ?_
   refine VA.takeX (i := 10) rfl (by kernel_rfl) (by kernel_rfl) (by kernel_rfl) rfl rfl rfl rfl aK2b ?_
   refine VA.takeX (i := 11) rfl (by kernel_rfl) (by kernel_rfl) (by kernel_rfl) rfl rfl rfl rfl aK2b ?_
   refine VA.takeX (i := 12) rfl (by kernel_rfl) (by kernel_rfl) (by kernel_rfl) rfl rfl rfl rfl aK2b ?_
   refine VA.takeX (i := 13) rfl (by kernel_rfl) (by kernel_rfl) (by kernel_rfl) rfl rfl rfl rfl aK2b ?_
   refine VA.takeX (i := 14) rfl (by kernel_rfl) (by kernel_rfl) (by kernel_rfl) rfl rfl rfl rfl aK2b ?_
   refine VA.takeX (i := 15) rfl (by kernel_rfl) (by kernel_rfl) (by kernel_rfl) rfl rfl rfl rfl aK2b ?_
   refine VA.take (i := 16) rfl (by kernel_rfl) (by kernel_rfl) (by kernel_rfl) rfl rfl (OpV.pickF rfl rfl rfl rfl aK2b) ?_
   refine VA.done (by kernel_rfl) ?_
   refine VC.condF rfl rfl ?_
   have hex : j = 0 ∨ decide (c (l2.getD j default) (l2.getD (j - 1) default) < 0) = false := by first | exact .inl (by omega) | exact .inr (decide_eq_false (by omega))
   refine VC.le _ (Le.boxRow (i := 0) (n := l0.length) rfl (by rw [rowL_len, hlen2]; rfl) hcap hmx) ?_
   refine VC.exit ?_
   refine VC.region ?_
   refine VO.mv rfl rfl rfl rfl ?_
   refine VO.val rfl rfl (OpV.add rfl rfl rfl (by unfold fits; omega)) ?_
   refine VO.ma rfl rfl rfl rfl ?_
   refine VO.nil ?_
   exact Exists.intro (⟨(i + 1, l2), hI.done ha hn hex, Nat.succ_pos _, by show i + 1 ≤ _; omega⟩) (And.intro (Le.mk hB [0] ⟨rfl, rfl, rfl, rfl, rfl, trivial⟩ rfl (by first | rfl | assumption) (Nat.le_refl _)) (by first | omega | (show _ < _; omega) | (simp only []; omega)))
 ·have aH1 := aH1b
  try simp only [qqT, qqF, qqN, qqM, qqL, qqE] at aH1
  refine VC.exit ?_
  exact Exists.intro _ (And.intro (RetV.none Tryz.results273) (⟨l, hi.all (by omega), rfl, rfl⟩))
set_option maxRecDepth 100000 in
theorem pdqSort_rw {l0 : List NeedS} {u : Value} {ty : TypeId} {F : FuncId} {cs : List AV} {c : NeedS → NeedS → Int} {k : Int} (hl : l0.length ≤ 12) (hcall : ∀ us w, (callFunc F us).run Tryz.prog w = .ok (.enter F us) w) (hF : ∀ x y, Spec Tryz.prog F ([avNd x, avNd y] ++ cs) (fun z => z = avI (c x y))) (ht : ∀ {a b d : NeedS}, decide (c a b < 0) = true → decide (c b d < 0) = true → decide (c a d < 0) = true) (ha : ∀ {a b : NeedS}, decide (c a b < 0) = true → decide (c b a < 0) = false) (hn : ∀ {a b d : NeedS}, decide (c b a < 0) = false → decide (c d b < 0) = false → decide (c d a < 0) = false) :
  SpecH Tryz.prog 204 [.v u, avI 0, avI l0.length, avI k, .fn F cs] [.row u l0.length 2 (rowL l0) ty] (fun y hp' => ∃ l, (l.Perm l0 ∧ OrdL (fun x y => decide (c x y < 0)) l) ∧ y = .tup [] ∧ hp' = [.row u l0.length 2 (rowL l) ty]) := by
 refine SpecH.of_VC Tryz.func204 rfl Tryz.ntmps204 (Nle rfl) fun w A hB => ?_
 have hnew : True := trivial
 refine VC.sr ?_
 refine VO.ma rfl rfl rfl rfl ?_
 refine VO.nil ?_
 refine VC.sr ?_
 refine VO.ma rfl rfl rfl rfl ?_
 refine VO.nil ?_
 refine VC.block ?_
 refine VC.loopK [(0, _), (4, _)] ⟨rfl, rfl, trivial⟩ ({z : Nat // z = 0}) (fun (iZ : {z : Nat // z = 0}) => match iZ with | ⟨z, hz⟩ => [(1, avI 0), (2, avI l0.length), (3, avI k), (10, avB true), (11, avB true)]) (fun (iZ : {z : Nat // z = 0}) => match iZ with | ⟨z, hz⟩ => [.row u l0.length 2 (rowL l0) ty]) (fun (iZ : {z : Nat // z = 0}) => match iZ with | ⟨z, hz⟩ => 0) (fun (iZ : {z : Nat // z = 0}) => match iZ with | ⟨z, hz⟩ => z) ⟨0, rfl⟩ (Le.mk hB [0] ⟨rfl, rfl, rfl, rfl, rfl, rfl, rfl, trivial⟩ rfl rfl (Nat.le_refl _)) ?_
 rintro ⟨z, hz⟩
 show VC _ _ _ _ ⟨[(1, avI 0), (2, avI l0.length), (3, avI k), (10, avB true), (11, avB true)] ++ [(0, _), (4, _)], [.row u l0.length 2 (rowL l0) ty], 0⟩
 refine VC.block ?_
 refine VC.sr ?_
 refine VO.mv rfl rfl rfl rfl ?_
 refine VO.mv rfl rfl rfl rfl ?_
 refine VO.val rfl rfl (OpV.sub rfl rfl rfl (by unfold fits; omega)) ?_
 refine VO.ma rfl rfl rfl rfl ?_
 refine VO.nil ?_
 refine VC.seq ?_
 refine VC.sr ?_
 refine VO.mv rfl rfl rfl rfl ?_
 refine VO.val rfl rfl (OpV.leq rfl rfl rfl) ?_
 refine VO.nil ?_
 refine VC.cond rfl (fun aH1b => ?_) (fun aH1b => ?_)
 ·have aH1 := aH1b
  try simp only [qqT, qqF, qqN, qqM, qqL, qqE] at aH1
  refine VC.sr ?_
  refine VO.mv rfl rfl rfl rfl ?_
  refine VO.mv rfl rfl rfl rfl ?_
  refine VO.mv rfl rfl rfl rfl ?_
  refine VO.mv rfl rfl rfl rfl ?_
  refine VO.op rfl (OpE.callH0 rfl hB rfl Tryz.call273 rfl rfl (insSort_rw (by omega) hcall hF ht ha hn) (List.Perm.refl _) (fun _ _ => trivial) ?_)
  rintro _ _ ⟨l, hpl, rfl, rfl⟩
  refine VO.nil ?_
  refine VC.ret ?_
  exact Exists.intro _ (And.intro (RetV.none Tryz.results204) (⟨l, hpl, rfl, rfl⟩))
 ·have aH1 := aH1b
  try simp only [qqT, qqF, qqN, qqM, qqL, qqE] at aH1
  exact VC.absurd (by omega)
set_option maxRecDepth 100000 in
theorem sortFunc_rw {l0 : List NeedS} {u : Value} {ty : TypeId} {F : FuncId} {cs : List AV} {c : NeedS → NeedS → Int} (hl : l0.length ≤ 12) (hcall : ∀ us w, (callFunc F us).run Tryz.prog w = .ok (.enter F us) w) (hF : ∀ x y, Spec Tryz.prog F ([avNd x, avNd y] ++ cs) (fun z => z = avI (c x y))) (ht : ∀ {a b d : NeedS}, decide (c a b < 0) = true → decide (c b d < 0) = true → decide (c a d < 0) = true) (ha : ∀ {a b : NeedS}, decide (c a b < 0) = true → decide (c b a < 0) = false) (hn : ∀ {a b d : NeedS}, decide (c b a < 0) = false → decide (c d b < 0) = false → decide (c d a < 0) = false) :
  SpecH Tryz.prog 127 [.v u, .fn F cs] [.row u l0.length 2 (rowL l0) ty] (fun y hp' => ∃ l, (l.Perm l0 ∧ OrdL (fun x y => decide (c x y < 0)) l) ∧ y = .tup [] ∧ hp' = [.row u l0.length 2 (rowL l) ty]) := by
 refine SpecH.of_VC Tryz.func127 rfl Tryz.ntmps127 (Nle rfl) fun w A hB => ?_
 have hnew : True := trivial
 refine VC.sr ?_
 refine VO.mv rfl rfl rfl rfl ?_
 refine VO.val rfl rfl (OpV.len_row (i := 0) rfl Tryz.underlying164 rfl rfl) ?_
 refine VO.ma rfl rfl rfl rfl ?_
 refine VO.nil ?_
 refine VC.region ?_
 refine VO.mv rfl rfl rfl rfl ?_
 refine VO.mv rfl rfl rfl rfl ?_
 refine VO.mv rfl rfl rfl rfl ?_
 refine VO.val rfl rfl (OpV.conv rfl Tryz.underlying3 Tryz.underlying121 rfl (IntWalk.u64_in _ (by omega))) ?_
 refine VO.op rfl (OpE.call rfl hB rfl Tryz.call191 rfl (SpecN.spec (bits_Len_S (x := (l0.length : Int)) (by omega) (by omega))) ?_)
 rintro _ ⟨k, rfl⟩
 refine VO.mv rfl rfl rfl rfl ?_
 refine VO.op rfl (OpE.callH0 rfl hB rfl Tryz.call204 rfl rfl (pdqSort_rw hl hcall hF ht ha hn) (List.Perm.refl _) (fun _ _ => trivial) ?_)
 rintro _ _ ⟨l, hpl, rfl, rfl⟩
 refine VO.nil ?_
 exact Exists.intro _ (And.intro (RetV.none Tryz.results127) (⟨l, hpl, rfl, rfl⟩))
end Go.Proofs.YtdnlhdilpdeecaaGreatDoor
namespace Go.Proofs.YtdnlhdilpdeecaaGreatDoor
open Go.RowKit
set_option linter.unusedVariables false
set_option linter.unusedSimpArgs false
abbrev RwM := List (ByteArray × Int)
def rwNow (n : RwM) (x : LookS) : RwM := mput n x.name (if x.bad = true then mgetD n x.name 0 + 1 else 0)
def rwMost (n m : RwM) (x : LookS) : RwM := if x.bad = true then mput m x.name (max (mgetD m x.name 0) (mgetD n x.name 0 + 1)) else m
def rwS (l : List LookS) : RwM × RwM := l.foldl (fun s x => (rwNow s.1 x, rwMost s.1 s.2 x)) ([], [])
theorem rwS_take {l : List LookS} {q : Nat} (h : q < l.length) : rwS (l.take (q + 1)) = (rwNow (rwS (l.take q)).1 (l.getD q default), rwMost (rwS (l.take q)).1 (rwS (l.take q)).2 (l.getD q default)) := by
 have : l.take (q + 1) = l.take q ++ [l.getD q default] := by
  rw [List.take_succ_eq_append_getElem h]; simp [List.getD_eq_getElem?_getD, h]
 rw [this]; unfold rwS; rw [List.foldl_append]; rfl
theorem mgetD_nil {k : ByteArray} : mgetD ([] : RwM) k 0 = 0 := rfl
theorem rwS_bd {l : List LookS} : ∀ q, q ≤ l.length → ∀ k, (0 ≤ mgetD (rwS (l.take q)).1 k 0 ∧ mgetD (rwS (l.take q)).1 k 0 ≤ q) ∧ (0 ≤ mgetD (rwS (l.take q)).2 k 0 ∧ mgetD (rwS (l.take q)).2 k 0 ≤ q)
 | 0, _, k => by
  rw [List.take_zero]
  have : rwS [] = ([], []) := rfl
  rw [this]
  simp only [mgetD_nil]
  omega
 | q + 1, h, k => by
  have ih := rwS_bd (l := l) q (by omega)
  have hk := ih k
  have hx := ih (l.getD q default).name
  rw [rwS_take (by omega)]
  simp only
  constructor
  ·unfold rwNow
   rw [mgetD_mput]
   split
   ·split <;> omega
   ·omega
  ·unfold rwMost
   split
   ·rw [mgetD_mput]
    split
    ·omega
    ·omega
   ·omega
theorem rwS_nd : ∀ (l : List LookS) (s : RwM × RwM), (s.1.map (·.1)).Nodup → (s.2.map (·.1)).Nodup → ((l.foldl (fun s x => (rwNow s.1 x, rwMost s.1 s.2 x)) s).2.map (·.1)).Nodup
 | [], s, _, h => h
 | x :: l, s, h1, h2 => rwS_nd l _ (mput_nodup h1 _ _) (by
   show ((rwMost s.1 s.2 x).map (·.1)).Nodup
   unfold rwMost
   split
   ·exact mput_nodup h2 _ _
   ·exact h2)
theorem rwS_nodup (l : List LookS) : ((rwS l).2.map (·.1)).Nodup := rwS_nd l ([], []) List.nodup_nil List.nodup_nil
theorem rwS_sub : ∀ (l : List LookS) (s : RwM × RwM) (k : ByteArray), k ∈ (l.foldl (fun s x => (rwNow s.1 x, rwMost s.1 s.2 x)) s).2.map (·.1) → k ∈ s.2.map (·.1) ∨ k ∈ l.map (·.name)
 | [], s, k, h => .inl h
 | x :: l, s, k, h => by
  rcases rwS_sub l _ k h with h | h
  ·have h : k ∈ (rwMost s.1 s.2 x).map (·.1) := h
   unfold rwMost at h
   split at h
   ·rcases mput_mem.1 h with h | h
    ·exact .inl h
    ·exact .inr (by rw [h]; exact List.mem_cons_self ..)
   ·exact .inl h
  ·exact .inr (List.mem_cons_of_mem _ h)
theorem rwS_len {l : List LookS} {N : Nat} (h : (uK (l.map (·.name))).length ≤ N) : (rwS l).2.length ≤ N := by
 have h1 : ((rwS l).2.map (·.1)).length ≤ (uK (l.map (·.name))).length := (rwS_nodup l).length_le_of_subset fun k hk => by
  rw [uK_mem]
  rcases rwS_sub l ([], []) k hk with h | h
  ·cases h
  ·exact h
 rw [List.length_map] at h1; omega
def cRw (x y : NeedS) : Int := errsF [cmpI y.count x.count, cmpB x.key y.key]
abbrev ltRw (x y : NeedS) : Bool := decide (cRw x y < 0)
theorem cRw_lt (x y : NeedS) : cRw x y < 0 ↔ (y.count < x.count ∨ (y.count = x.count ∧ sLt x.key y.key = true)) := by
  have hb := cmpB_lt x.key y.key
  unfold cRw
  by_cases hc : cmpI y.count x.count = 0
  · have e : errsF [cmpI y.count x.count, cmpB x.key y.key] = cmpB x.key y.key := by
      by_cases h2 : cmpB x.key y.key = 0
      · rw [h2]
        exact errsF_none fun j hj => by
          match j, hj with
          | 0, _ => exact hc
          | 1, _ => rfl
      · exact errsF_at (q := 1) (by simp) (fun j hj => by obtain rfl : j = 0 := by omega
                                                          exact hc) h2
    rw [e, ← hb, decide_eq_true_eq]
    unfold cmpI at hc
    constructor
    · intro h; exact .inr ⟨by revert hc; split <;> (try split) <;> omega, h⟩
    · rintro (h | h)
      · exfalso; revert hc; rw [if_pos h]; omega
      · exact h.2
  · have e : errsF [cmpI y.count x.count, cmpB x.key y.key] = cmpI y.count x.count := errsF_at (q := 0) (by simp) (fun j hj => absurd hj (by omega)) hc
    rw [e]
    unfold cmpI at hc ⊢
    constructor
    · intro h; exact .inl (by revert h; split <;> (try split) <;> omega)
    · rintro (h | h)
      · rw [if_pos h]; omega
      · exfalso; apply hc; rw [if_neg (by omega), if_neg (by omega)]
theorem ltRw_iff {x y : NeedS} : ltRw x y = true ↔ (y.count < x.count ∨ (y.count = x.count ∧ sLt x.key y.key = true)) := by rw [decide_eq_true_eq]; exact cRw_lt x y
theorem ltRw_trans {a b d : NeedS} (h1 : ltRw a b = true) (h2 : ltRw b d = true) : ltRw a d = true := by
 rw [ltRw_iff] at *
 rcases h1 with h1 | ⟨h1, k1⟩ <;> rcases h2 with h2 | ⟨h2, k2⟩
 ·exact .inl (by omega)
 ·exact .inl (by omega)
 ·exact .inl (by omega)
 ·exact .inr ⟨by omega, sLt_trans k1 k2⟩
theorem ltRw_as {a b : NeedS} (h : ltRw a b = true) : ltRw b a = false := by
 rw [Bool.eq_false_iff]
 intro h2
 have h3 := ltRw_iff.1 (ltRw_trans h h2)
 rcases h3 with h3 | ⟨_, h3⟩
 ·omega
 ·rw [sLt_irr] at h3; cases h3
theorem ltRw_tot {a b : NeedS} (hne : a ≠ b) (h : ltRw a b = false) : ltRw b a = true := by
 rw [Bool.eq_false_iff] at h
 rw [ltRw_iff]
 have h1 : ¬ _ := fun e => h (ltRw_iff.2 e)
 rcases Int.lt_trichotomy a.count b.count with k | k | k
 ·exact .inl k
 ·refine .inr ⟨k, ?_⟩
  have h2 : sLt a.key b.key = false := Bool.eq_false_iff.2 fun e => h1 (.inr ⟨k.symm, e⟩)
  refine sLt_total h2 fun e => hne ?_
  cases a; cases b
  simp only at e k
  subst e; subst k; rfl
 ·exact absurd (.inl k) h1
theorem ltRw_neg {a b d : NeedS} (h1 : ltRw b a = false) (h2 : ltRw d b = false) : ltRw d a = false := by
 by_cases e1 : a = b
 ·subst e1; exact h2
 ·by_cases e2 : b = d
  ·subst e2; exact h1
  ·exact ltRw_as (ltRw_trans (ltRw_tot (Ne.symm e1) h1) (ltRw_tot (Ne.symm e2) h2))
def rowsU (m : RwM) (n : Int) : List NeedS := (m.map ndOf).filter fun x => decide (n ≤ x.count)
def rowsR (m : RwM) (n : Int) : List NeedS := (rowsU m n).mergeSort fun x y => !ltRw y x
theorem rowsR_perm (m : RwM) (n : Int) : (rowsR m n).Perm (rowsU m n) := List.mergeSort_perm _ _
theorem rowsR_ord (m : RwM) (n : Int) : OrdL ltRw (rowsR m n) := by
 have h := List.pairwise_mergeSort (le := fun x y => !ltRw y x) (fun a b c h1 h2 => by
  simp only [Bool.not_eq_true'] at *
  exact ltRw_neg h1 h2) (fun a b => by
  cases h : ltRw b a
  ·rfl
  ·rw [ltRw_as h]; rfl) (rowsU m n)
 exact h.imp fun {a b} hab => by simpa using hab
theorem rowsU_nodup {m : RwM} {n : Int} (h : (m.map (·.1)).Nodup) : (rowsU m n).Nodup := by
 have : (m.map ndOf).Nodup := by
  have h2 : ((m.map ndOf).map (·.key)).Nodup := by rw [List.map_map]; exact h
  exact (List.pairwise_map.1 h2).imp fun hne e => hne (congrArg _ e)
 exact this.sublist List.filter_sublist
def pickR (m : RwM) (n : Int) (seen : List Nat) : List NeedS := (pickN m seen).filter fun x => decide (n ≤ x.count)
theorem pickR_yes {m : RwM} {n : Int} {j : Nat} {seen : List Nat} (h : n ≤ (m.getD j default).2) : pickR m n (j :: seen) = pickR m n seen ++ [ndOf (m.getD j default)] := by
 unfold pickR; rw [pickN_cons, List.filter_append, List.filter_cons, if_pos (by exact decide_eq_true h)]; rfl
theorem pickR_no {m : RwM} {n : Int} {j : Nat} {seen : List Nat} (h : ¬ n ≤ (m.getD j default).2) : pickR m n (j :: seen) = pickR m n seen := by
 unfold pickR; rw [pickN_cons, List.filter_append, List.filter_cons, if_neg (by intro e; exact h (of_decide_eq_true e)), List.filter_nil, List.append_nil]
theorem pickR_len (m : RwM) (n : Int) (seen : List Nat) : (pickR m n seen).length ≤ seen.length := by
 have := List.length_filter_le (fun x : NeedS => decide (n ≤ x.count)) (pickN m seen)
 rw [pickN_len] at this; exact this
theorem rowsR_one {m : RwM} {n : Int} {seen : List Nat} {r : List NeedS} (h : (m.map (·.1)).Nodup) (hd : seen.Nodup) (hs : ∀ j ∈ seen, j < m.length) (ha : ∀ j, j < m.length → j ∈ seen) (hr : r.Perm (pickR m n seen)) (ho : OrdL ltRw r) : rowsR m n = r := by
 have hp : (pickR m n seen).Perm (rowsU m n) := (pickN_perm hd hs ha).filter _
 exact ord_unique ((rowsR_perm m n).trans (hp.symm.trans hr.symm)) ((rowsR_perm m n).nodup_iff.2 (rowsU_nodup h)) (fun a _ b _ hne h => ltRw_tot hne h) (rowsR_ord m n) ho
def rwOut (r : List NeedS) : List PairS := r.map fun x => ⟨x.key, decB x.count.toNat⟩
def rowsL (l : List LookS) (n : Int) : List PairS := rwOut (rowsR (rwS l).2 n)
end Go.Proofs.YtdnlhdilpdeecaaGreatDoor
namespace Go.Proofs.YtdnlhdilpdeecaaGreatDoor
open Go.RowKit
set_option linter.unusedVariables false
set_option linter.unusedSimpArgs false
theorem rowsU_mem {m : RwM} {n : Int} {x : NeedS} (hnd : (m.map (·.1)).Nodup) (h : x ∈ rowsU m n) : x.count = mgetD m x.key 0 := by
 obtain ⟨h1, _⟩ := List.mem_filter.1 h
 obtain ⟨p, hp, rfl⟩ := List.mem_map.1 h1
 obtain ⟨j, hj, rfl⟩ := List.getElem_of_mem hp
 show (m[j]).2 = mgetD m (m[j]).1 0
 rw [mgetD, mget_pos, mpos_nodup m hnd j hj, List.getElem?_eq_getElem hj]; rfl
theorem uK_few {l N : List ByteArray} (h : ∀ x ∈ l, x ∈ N) : (uK l).length ≤ N.length := (uK_srt l).nd.length_le_of_subset fun x hx => h x (uK_mem.1 hx)
theorem rwOut_len (r : List NeedS) : (rwOut r).length = r.length := by simp [rwOut]
theorem rwOut_take {r : List NeedS} {k : Nat} (h : k < r.length) : (rwOut r).take (k + 1) = (rwOut r).take k ++ [⟨(r.getD k default).key, decB (r.getD k default).count.toNat⟩] := by
 rw [List.take_succ_eq_append_getElem (by rw [rwOut_len]; exact h)]
 simp [rwOut, List.getD_eq_getElem?_getD, h]
theorem rwOut_all (r : List NeedS) : (rwOut r).take r.length = rwOut r := List.take_of_length_le (by rw [rwOut_len]; exact Nat.le_refl _)
set_option maxRecDepth 100000 in
theorem inspect_Rows1 {x z : NeedS}  :
  Spec Tryz.prog 128 [avNd x, avNd z] (fun y => y = avI (cRw x z)) := by
 refine Spec.of_VC Tryz.func128 rfl Tryz.ntmps128 (Nle rfl) fun w A hB => ?_
 have hnew : True := trivial
 refine VC.sr ?_
 refine VO.op rfl (OpE.box rfl hB rfl rfl rfl ?_)
 intro g2
 refine VO.op rfl (OpE.box rfl hB rfl rfl rfl ?_)
 intro g3
 refine VO.ma rfl rfl rfl rfl ?_
 refine VO.nil ?_
 refine VC.seq ?_
 refine VC.draw (fun _ => NoB) hB (by kernel_rfl) ?_
 refine VA.take (i := 0) rfl (by kernel_rfl) (by kernel_rfl) (by kernel_rfl) rfl rfl (OpV.fieldAddrO 1 rfl Tryz.underlying166 rfl rfl Tryz.sizeOf3 rfl) ?_
 refine VA.take (i := 1) rfl (by kernel_rfl) (by kernel_rfl) (by kernel_rfl) rfl rfl (OpV.load_own (i := 1) rfl hB Tryz.isAgg3 rfl rfl rfl Wi.not0) ?_
 refine VA.take (i := 2) rfl (by kernel_rfl) (by kernel_rfl) (by kernel_rfl) rfl rfl (OpV.fieldAddrO 1 rfl Tryz.underlying166 rfl rfl Tryz.sizeOf3 rfl) ?_
 refine VA.take (i := 3) rfl (by kernel_rfl) (by kernel_rfl) (by kernel_rfl) rfl rfl (OpV.load_own (i := 0) rfl hB Tryz.isAgg3 rfl rfl rfl Wi.not0) ?_
 refine VA.take (i := 5) rfl (by kernel_rfl) (by kernel_rfl) (by kernel_rfl) rfl rfl (OpV.fieldAddrO 0 rfl Tryz.underlying166 rfl rfl Tryz.sizeOf9 rfl) ?_
 refine VA.take (i := 6) rfl (by kernel_rfl) (by kernel_rfl) (by kernel_rfl) rfl rfl (OpV.load_own (i := 0) rfl hB Tryz.isAgg9 rfl rfl rfl Wi.not0) ?_
 refine VA.take (i := 7) rfl (by kernel_rfl) (by kernel_rfl) (by kernel_rfl) rfl rfl (OpV.fieldAddrO 0 rfl Tryz.underlying166 rfl rfl Tryz.sizeOf9 rfl) ?_
 refine VA.take (i := 8) rfl (by kernel_rfl) (by kernel_rfl) (by kernel_rfl) rfl rfl (OpV.load_own (i := 1) rfl hB Tryz.isAgg9 rfl rfl rfl Wi.not0) ?_
 refine VA.all (rs := [4]) (by kernel_rfl) (by decide) ?_
 refine ⟨⟨_, rfl, .inl rfl, ?_⟩, trivial⟩
 refine OpE.call rfl hB rfl Tryz.call129 rfl (SpecN.spec (cmp_Compare_int)) ?_
 rintro _ rfl
 refine VA.all (rs := [9]) (by kernel_rfl) (by decide) ?_
 refine ⟨⟨_, rfl, .inl rfl, ?_⟩, trivial⟩
 refine OpE.call rfl hB rfl Tryz.call117 rfl (SpecN.spec (strings_Compare_S)) ?_
 rintro _ rfl
 refine VA.all (rs := [10]) (by kernel_rfl) (by decide) ?_
 refine ⟨⟨_, rfl, .inl rfl, ?_⟩, trivial⟩
 refine OpE.buildSlice (zc := #[.int .i64 0, .int .i64 0]) rfl hB rfl Tryz.underlying22 Tryz.sizeOf3 Tryz.zeroValue3 (by decide) (by decide) (by kernel_rfl) rfl rfl ?_
 refine VA.le _ (Le.lits (t := 15) (xs := [cmpI z.count x.count, cmpB x.key z.key]) rfl rfl) ?_
 refine VA.all (rs := [11]) (by kernel_rfl) (by decide) ?_
 refine ⟨⟨_, rfl, .inl rfl, ?_⟩, trivial⟩
 refine OpE.call rfl hB rfl Tryz.call116 rfl (SpecN.spec (cmp_Or_int (by simp))) ?_
 rintro _ rfl
 refine VA.take (i := 12) rfl (by kernel_rfl) (by kernel_rfl) (by kernel_rfl) rfl rfl (OpV.move (.inr rfl) rfl) ?_
 refine VA.done (by kernel_rfl) ?_
 refine VC.ret ?_
 exact Exists.intro _ (And.intro (RetV.one Tryz.results128 (ResV.tmp rfl)) (rfl))
set_option maxRecDepth 100000 in
set_option maxHeartbeats 8000000 in
theorem inspect_Rows {l : List LookS} {n : Int} (hs : SmLk l) (h100 : l.length < 100) (h12 : lookF l = 0 → (uK (l.map (·.name))).length ≤ 12) :
  SpecN Tryz.prog 35 [avL l, avI n] (fun y => y = .tup [avL (if leastE l n = 0 then rowsL l n else []), avI (leastE l n)]) := by
 refine SpecN.of_VCN Tryz.func35 rfl Tryz.ntmps35 (Nle rfl) fun w A hB => ?_
 have hnew : True := trivial
 refine VC.seq ?_
 have hl := hs.len
 have hmn := rwS_nodup l
 have hmb := rwS_bd (l := l) l.length (Nat.le_refl _)
 rw [List.take_length] at hmb
 refine VC.region ?_
 refine VO.ma rfl rfl rfl rfl ?_
 refine VO.ma rfl rfl rfl rfl ?_
 refine VO.nil ?_
 refine VC.seq ?_
 refine VC.sr ?_
 refine VO.mv rfl rfl rfl rfl ?_
 refine VO.mv rfl rfl rfl rfl ?_
 refine VO.op rfl (OpE.call rfl hB rfl Tryz.call124 rfl (SpecN.spec (inspect_leastFault hs)) ?_)
 rintro _ rfl
 refine VO.ma rfl rfl rfl rfl ?_
 refine VO.nil ?_
 refine VC.sr ?_
 refine VO.mv rfl rfl rfl rfl ?_
 refine VO.val rfl rfl (OpV.neq rfl rfl rfl) ?_
 refine VO.nil ?_
 refine VC.cond rfl (fun h0b => ?_) (fun h0b => ?_)
 ·have h0 := h0b
  try simp only [qqT, qqF, qqN, qqM, qqL, qqE] at h0
  refine VC.sr ?_
  refine VO.mv rfl rfl rfl rfl ?_
  refine VO.ma rfl rfl rfl rfl ?_
  refine VO.ma rfl rfl rfl rfl ?_
  refine VO.nil ?_
  refine VC.ret ?_
  exact Exists.intro _ (And.intro (RetN.two Tryz.results35 (ResN.nilE rfl) (ResN.v rfl)) (by rw [if_neg h0]; rfl))
 ·have h0 := h0b
  try simp only [qqT, qqF, qqN, qqM, qqL, qqE] at h0
  have hm12 := rwS_len (h12 (leastE_zero (l := l) (n := n) (by omega)).1)
  refine VC.skip ?_
  refine VC.sr ?_
  refine VO.op rfl (OpE.makeMap (kvS) (eI) rfl hB rfl ?_)
  intro gn
  refine VO.op rfl (OpE.makeMap (kvS) (eI) rfl hB rfl ?_)
  intro gm
  refine VO.ma rfl rfl rfl rfl ?_
  refine VO.ma rfl rfl rfl rfl ?_
  refine VO.nil ?_
  refine VC.seq ?_
  refine VC.sr ?_
  refine VO.mv rfl rfl rfl rfl ?_
  refine VO.val rfl rfl (OpV.len_im rfl Tryz.underlying54 rfl) ?_
  refine VO.mv rfl rfl rfl rfl ?_
  refine VO.nil ?_
  refine VC.block ?_
  refine VC.loopK [(1, _), (7, _), (8, _), (25, _), (26, _)] ⟨rfl, rfl, rfl, rfl, rfl, trivial⟩ ({q : Nat // q ≤ l.length}) (fun (iZ : {q : Nat // q ≤ l.length}) => match iZ with | ⟨q, hq⟩ => [(27, avI (q : Int))]) (fun (iZ : {q : Nat // q ≤ l.length}) => match iZ with | ⟨q, hq⟩ => [mapE kvS gn eI (rwS (l.take q)).1, mapE kvS gm eI (rwS (l.take q)).2]) (fun (iZ : {q : Nat // q ≤ l.length}) => match iZ with | ⟨q, hq⟩ => 0) (fun (iZ : {q : Nat // q ≤ l.length}) => match iZ with | ⟨q, hq⟩ => l.length - q) ⟨0, Nat.zero_le _⟩ (Le.mk hB [0, 1] ⟨rfl, rfl, rfl, rfl, rfl, rfl, trivial⟩ rfl rfl (Nat.le_refl _)) ?_
  rintro ⟨q, hq⟩
  show VC _ _ _ _ ⟨[(27, avI (q : Int))] ++ [(1, _), (7, _), (8, _), (25, _), (26, _)], [mapE kvS gn eI (rwS (l.take q)).1, mapE kvS gm eI (rwS (l.take q)).2], 0⟩
  refine VC.sr ?_
  refine VO.val rfl rfl (OpV.lss rfl rfl rfl) ?_
  refine VO.nil ?_
  refine VC.seq ?_
  refine VC.cond rfl (fun aH1b => ?_) (fun aH1b => ?_)
  ·have aH1 := aH1b
   try simp only [qqT, qqF, qqN, qqM, qqL, qqE] at aH1
   refine VC.skip ?_
   refine VC.seq ?_
   refine VC.block ?_
   refine VC.seq ?_
   have hbd := rwS_bd (l := l) q (by omega) (l.getD q default).name
   refine VC.region ?_
   refine VO.val rfl rfl (OpV.indexAddr_E rfl Tryz.underlying54 Tryz.sizeOf80 rfl rfl rfl (by omega)) ?_
   refine VO.val rfl rfl (OpV.loadK_at rfl hB OutW.no Tryz.isAgg80 Tryz.sizeOf80 rfl rfl) ?_
   refine VO.op rfl (OpE.alloc rfl hB rfl Tryz.zeroValue80 rfl ?_)
   intro g10
   refine VO.op rfl (OpE.store (i := 2) rfl hB rfl Tryz.sizeOf80 rfl rfl rfl rfl rfl rfl (Nle rfl) trivial ?_)
   refine VO.nil ?_
   refine VC.sr ?_
   refine VO.val rfl rfl (OpV.fieldAddrO 4 rfl Tryz.underlying80 rfl rfl Tryz.sizeOf4 rfl) ?_
   refine VO.val rfl rfl (OpV.load_own (i := 2) rfl hB Tryz.isAgg4 rfl rfl rfl (fun h => h)) ?_
   refine VO.nil ?_
   refine VC.cond rfl (fun h2b => ?_) (fun h2b => ?_)
   ·have h2 := h2b
    try simp only [qqT, qqF, qqN, qqM, qqL, qqE] at h2
    refine VC.sr ?_
    refine VO.mv rfl rfl rfl rfl ?_
    refine VO.val rfl rfl (OpV.fieldAddrO 1 rfl Tryz.underlying80 rfl rfl Tryz.sizeOf9 rfl) ?_
    refine VO.val rfl rfl (OpV.load_own (i := 2) rfl hB Tryz.isAgg9 rfl rfl rfl (fun h => h)) ?_
    refine VO.val rfl rfl (OpV.lookup_own (i := 0) rfl hB Tryz.underlying163 (KeyOk.str Tryz.underlying9) Tryz.zeroValue3 rfl (KeyE.v rfl) rfl (fun h => h)) ?_
    refine VO.le _ (Le.recast (t := 36) (y := avI (mgetD (rwS (l.take q)).1 (l.getD q default).name 0)) rfl (fun w Z u h => by unfold mgetD; revert h; cases mget (rwS (l.take q)).1 (l.getD q default).name <;> exact id)) ?_
    refine VO.val rfl rfl (OpV.add rfl rfl rfl (by unfold fits; omega)) ?_
    refine VO.op rfl (OpE.mapUpdate (i := 0) (xx := mgetD (rwS (l.take q)).1 (l.getD q default).name 0 + 1) rfl hB rfl Tryz.underlying163 (KeyOk.str Tryz.underlying9) rfl (KeyE.v rfl) rfl rfl trivial ?_)
    refine VO.nil ?_
    refine VC.region ?_
    refine VO.mv rfl rfl rfl rfl ?_
    refine VO.val rfl rfl (OpV.fieldAddrO 1 rfl Tryz.underlying80 rfl rfl Tryz.sizeOf9 rfl) ?_
    refine VO.val rfl rfl (OpV.load_own (i := 2) rfl hB Tryz.isAgg9 rfl rfl rfl (fun h => h)) ?_
    refine VO.mv rfl rfl rfl rfl ?_
    refine VO.val rfl rfl (OpV.fieldAddrO 1 rfl Tryz.underlying80 rfl rfl Tryz.sizeOf9 rfl) ?_
    refine VO.val rfl rfl (OpV.load_own (i := 2) rfl hB Tryz.isAgg9 rfl rfl rfl (fun h => h)) ?_
    refine VO.val rfl rfl (OpV.lookup_own (i := 1) rfl hB Tryz.underlying163 (KeyOk.str Tryz.underlying9) Tryz.zeroValue3 rfl (KeyE.v rfl) rfl (fun h => h)) ?_
    refine VO.le _ (Le.recast (t := 44) (y := avI (mgetD (rwS (l.take q)).2 (l.getD q default).name 0)) rfl (fun w Z u h => by unfold mgetD; revert h; cases mget (rwS (l.take q)).2 (l.getD q default).name <;> exact id)) ?_
    refine VO.mv rfl rfl rfl rfl ?_
    refine VO.val rfl rfl (OpV.fieldAddrO 1 rfl Tryz.underlying80 rfl rfl Tryz.sizeOf9 rfl) ?_
    refine VO.val rfl rfl (OpV.load_own (i := 2) rfl hB Tryz.isAgg9 rfl rfl rfl (fun h => h)) ?_
    refine VO.val rfl rfl (OpV.lookup_own (i := 0) rfl hB Tryz.underlying163 (KeyOk.str Tryz.underlying9) Tryz.zeroValue3 rfl (KeyE.v rfl) rfl (fun h => h)) ?_
    refine VO.le _ (Le.recast (t := 48) (y := avI (mgetD (rwS (l.take q)).1 (l.getD q default).name 0 + 1)) rfl (fun w Z u h => by
     have e : mgetD (mput (rwS (l.take q)).1 (l.getD q default).name (mgetD (rwS (l.take q)).1 (l.getD q default).name 0 + 1)) (l.getD q default).name 0 = mgetD (rwS (l.take q)).1 (l.getD q default).name 0 + 1 := by rw [mgetD_mput, if_pos rfl]
     rw [← e]; unfold mgetD at h ⊢; revert h; cases mget (mput (rwS (l.take q)).1 (l.getD q default).name ((mget (rwS (l.take q)).1 (l.getD q default).name).getD 0 + 1)) (l.getD q default).name <;> exact id)) ?_
    refine VO.val rfl rfl (OpV.max2 rfl rfl rfl) ?_
    refine VO.op rfl (OpE.mapUpdate (i := 1) (xx := max (mgetD (rwS (l.take q)).2 (l.getD q default).name 0) (mgetD (rwS (l.take q)).1 (l.getD q default).name 0 + 1)) rfl hB rfl Tryz.underlying163 (KeyOk.str Tryz.underlying9) rfl (KeyE.v rfl) rfl rfl trivial ?_)
    refine VO.nil ?_
    refine VC.region ?_
    refine VO.val rfl rfl (OpV.add rfl rfl rfl (by unfold fits; omega)) ?_
    refine VO.mv rfl rfl rfl rfl ?_
    refine VO.nil ?_
    exact Exists.intro (⟨q + 1, by omega⟩) (And.intro (Le.mk hB [0, 1] ⟨rfl, rfl, rfl, rfl, rfl, rfl, trivial⟩ rfl (by dsimp only; rw [rwS_take (by omega)]; unfold rwNow rwMost; first | (rw [if_pos h2, if_pos h2]; rfl) | (rw [if_neg (by rw [h2]; simp), if_neg (by rw [h2]; simp)]; rfl)) (Nat.le_refl _)) (by first | omega | (show _ < _; omega) | (simp only []; omega)))
   ·have h2 := h2b
    try simp only [qqT, qqF, qqN, qqM, qqL, qqE] at h2
    refine VC.region ?_
    refine VO.mv rfl rfl rfl rfl ?_
    refine VO.val rfl rfl (OpV.fieldAddrO 1 rfl Tryz.underlying80 rfl rfl Tryz.sizeOf9 rfl) ?_
    refine VO.val rfl rfl (OpV.load_own (i := 2) rfl hB Tryz.isAgg9 rfl rfl rfl (fun h => h)) ?_
    refine VO.op rfl (OpE.mapUpdate (i := 0) (xx := 0) rfl hB rfl Tryz.underlying163 (KeyOk.str Tryz.underlying9) rfl (KeyE.v rfl) rfl rfl trivial ?_)
    refine VO.nil ?_
    refine VC.region ?_
    refine VO.val rfl rfl (OpV.add rfl rfl rfl (by unfold fits; omega)) ?_
    refine VO.mv rfl rfl rfl rfl ?_
    refine VO.nil ?_
    exact Exists.intro (⟨q + 1, by omega⟩) (And.intro (Le.mk hB [0, 1] ⟨rfl, rfl, rfl, rfl, rfl, rfl, trivial⟩ rfl (by dsimp only; rw [rwS_take (by omega)]; unfold rwNow rwMost; first | (rw [if_pos h2, if_pos h2]; rfl) | (rw [if_neg (by rw [h2]; simp), if_neg (by rw [h2]; simp)]; rfl)) (Nat.le_refl _)) (by first | omega | (show _ < _; omega) | (simp only []; omega)))
  ·have aH1 := aH1b
   try simp only [qqT, qqF, qqN, qqM, qqL, qqE] at aH1
   refine VC.exit ?_
   refine VC.seq ?_
   obtain rfl : q = l.length := by omega
   rw [List.take_length]
   refine VC.le _ (Le.drop 1) ?_
   refine VC.le _ (Le.freezeM (t := 8) (i := 0) hB hnew rfl rfl) ?_
   refine VC.region ?_
   refine VO.ma rfl rfl rfl rfl ?_
   refine VO.nil ?_
   refine VC.seq ?_
   refine VC.sr ?_
   refine VO.mv rfl rfl rfl rfl ?_
   refine VO.op rfl (OpE.rangeM rfl hB rfl Tryz.underlying163 rfl ?_)
   intro g55
   refine VO.nil ?_
   refine VC.block ?_
   refine VC.le _ (Le.nilRow 2 166) ?_
   refine VC.loopK [(1, _), (55, _)] ⟨rfl, rfl, trivial⟩ ({z : Value × List Nat // z.2.Nodup ∧ ∀ j ∈ z.2, j < (rwS l).2.length}) (fun (iZ : {z : Value × List Nat // z.2.Nodup ∧ ∀ j ∈ z.2, j < (rwS l).2.length}) => match iZ with | ⟨⟨u, seen⟩, hsd, hsn⟩ => [(11, .v u)]) (fun (iZ : {z : Value × List Nat // z.2.Nodup ∧ ∀ j ∈ z.2, j < (rwS l).2.length}) => match iZ with | ⟨⟨u, seen⟩, hsd, hsn⟩ => [.it g55 (rwS l).2.length (fun j => kvS ((rwS l).2.getD j default).1) (fun j => eI ((rwS l).2.getD j default).2) seen, .row u (pickR (rwS l).2 n seen).length 2 (rowL (pickR (rwS l).2 n seen)) 166]) (fun (iZ : {z : Value × List Nat // z.2.Nodup ∧ ∀ j ∈ z.2, j < (rwS l).2.length}) => match iZ with | ⟨⟨u, seen⟩, hsd, hsn⟩ => 0) (fun (iZ : {z : Value × List Nat // z.2.Nodup ∧ ∀ j ∈ z.2, j < (rwS l).2.length}) => match iZ with | ⟨⟨u, seen⟩, hsd, hsn⟩ => (rwS l).2.length - seen.length) ⟨(.slice none 0 0, []), List.nodup_nil, fun j hj => by simp at hj⟩ (Le.mk hB [0, 1] ⟨rfl, rfl, rfl, trivial⟩ rfl rfl (Nat.le_refl _)) ?_
   rintro ⟨⟨u, seen⟩, hsd, hsn⟩
   show VC _ _ _ _ ⟨[(11, .v u)] ++ [(1, _), (55, _)], [.it g55 (rwS l).2.length (fun j => kvS ((rwS l).2.getD j default).1) (fun j => eI ((rwS l).2.getD j default).2) seen, .row u (pickR (rwS l).2 n seen).length 2 (rowL (pickR (rwS l).2 n seen)) 166], 0⟩
   simp only at hsd hsn
   have hsl := seen_len hsd hsn
   have hpl := pickR_len (rwS l).2 n seen
   refine VC.sr ?_
   refine VO.op rfl (OpE.nextM (i := 0) rfl hB rfl rfl rfl trivial ?_ ?_)
   ·intro hall56
    refine VO.val rfl rfl (OpV.extract rfl rfl rfl) ?_
    refine VO.nil ?_
    refine VC.seq ?_
    refine VC.condF rfl rfl ?_
    refine VC.exit ?_
    refine VC.sr ?_
    refine VO.mv rfl rfl rfl rfl ?_
    refine VO.op rfl (OpE.callH (rest := [_]) rfl hB rfl Tryz.call127 rfl rfl (specH_fnv (sortFunc_rw (l0 := pickR (rwS l).2 n seen) (F := 128) (cs := []) (c := cRw) (by omega) Tryz.call128 (fun x z => inspect_Rows1) ltRw_trans ltRw_as ltRw_neg)) (List.Perm.swap _ _ _) (fun _ _ => trivial) ?_)
    rintro _ _ ⟨r, hpr, rfl, rfl⟩
    refine VO.nil ?_
    refine VC.seq ?_
    have hrr : rowsR (rwS l).2 n = r := rowsR_one hmn hsd hsn hall56 hpr.1 hpr.2
    have hrl : r.length = (pickR (rwS l).2 n seen).length := hpr.1.length_eq
    have hrb : ∀ k, k < r.length → 0 ≤ (r.getD k default).count ∧ (r.getD k default).count < 100 := fun k hk => by
     have hm : r.getD k default ∈ r := by rw [List.getD_eq_getElem?_getD, List.getElem?_eq_getElem hk]; exact List.getElem_mem hk
     have h5 := rowsU_mem hmn ((rowsR_perm (rwS l).2 n).subset (by rw [hrr]; exact hm))
     have h6 := (hmb (r.getD k default).key).2
     omega
    refine VC.le _ (Le.rowT (t := 11) (i := 0) (xs := r) hB hnew rfl rfl hrl.symm) ?_
    refine VC.le _ (Le.drop 1) ?_
    refine VC.region ?_
    refine VO.ma rfl rfl rfl rfl ?_
    refine VO.nil ?_
    refine VC.seq ?_
    refine VC.sr ?_
    refine VO.mv rfl rfl rfl rfl ?_
    refine VO.val rfl rfl (OpV.len_im rfl Tryz.underlying164 rfl) ?_
    refine VO.mv rfl rfl rfl rfl ?_
    refine VO.nil ?_
    refine VC.block ?_
    refine VC.le _ (Le.nilRow 2 71) ?_
    refine VC.loopK [(72, _), (73, _)] ⟨rfl, rfl, trivial⟩ ({zz : Value × Nat // zz.2 ≤ r.length}) (fun (iZ : {zz : Value × Nat // zz.2 ≤ r.length}) => match iZ with | ⟨⟨u, k⟩, hq2⟩ => [(14, .v u), (74, avI (k : Int))]) (fun (iZ : {zz : Value × Nat // zz.2 ≤ r.length}) => match iZ with | ⟨⟨u, k⟩, hq2⟩ => [.row u k 2 (rowL ((rwOut r).take k)) 71]) (fun (iZ : {zz : Value × Nat // zz.2 ≤ r.length}) => match iZ with | ⟨⟨u, k⟩, hq2⟩ => 0) (fun (iZ : {zz : Value × Nat // zz.2 ≤ r.length}) => match iZ with | ⟨⟨u, k⟩, hq2⟩ => r.length - k) ⟨(.slice none 0 0, 0), Nat.zero_le _⟩ (Le.mk hB [0] ⟨rfl, rfl, rfl, rfl, trivial⟩ rfl rfl (Nat.le_refl _)) ?_
    rintro ⟨⟨u, k⟩, hq2⟩
    show VC _ _ _ _ ⟨[(14, .v u), (74, avI (k : Int))] ++ [(72, _), (73, _)], [.row u k 2 (rowL ((rwOut r).take k)) 71], 0⟩
    simp only at hq2
    refine VC.seq ?_
    skip
    refine VC.region ?_
    refine VO.val rfl rfl (OpV.lss rfl rfl rfl) ?_
    refine VO.nil ?_
    refine VC.seq ?_
    refine VC.cond rfl (fun aH2b => ?_) (fun aH2b => ?_)
    ·have aH2 := aH2b
     try simp only [qqT, qqF, qqN, qqM, qqL, qqE] at aH2
     refine VC.skip ?_
     refine VC.seq ?_
     refine VC.block ?_
     refine VC.sr ?_
     refine VO.val rfl rfl (OpV.indexAddr_E rfl Tryz.underlying164 Tryz.sizeOf166 rfl rfl rfl (by omega)) ?_
     refine VO.val rfl rfl (OpV.loadK_at rfl hB OutW.no Tryz.isAgg166 Tryz.sizeOf166 rfl rfl) ?_
     refine VO.op rfl (OpE.alloc rfl hB rfl Tryz.zeroValue166 rfl ?_)
     intro g16
     refine VO.op rfl (OpE.store (i := 1) rfl hB rfl Tryz.sizeOf166 rfl rfl rfl rfl rfl rfl (Nle rfl) trivial ?_)
     refine VO.nil ?_
     refine VC.draw (fun j b => j = 8 ∧ u.ownBlock = some b) hB (by kernel_rfl) ?_
     refine VA.take (i := 0) rfl (by kernel_rfl) (by kernel_rfl) (by kernel_rfl) rfl rfl (OpV.move (.inl rfl) rfl) ?_
     refine VA.take (i := 1) rfl (by kernel_rfl) (by kernel_rfl) (by kernel_rfl) rfl rfl (OpV.fieldAddrO 0 rfl Tryz.underlying166 rfl rfl Tryz.sizeOf9 rfl) ?_
     refine VA.takeT [2, 6, 7, 8] (i := 2) (by kernel_rfl) (by kernel_rfl) rfl (by kernel_rfl) (by kernel_rfl) (by kernel_rfl) rfl rfl (OpV.load_own (i := 1) rfl hB Tryz.isAgg9 rfl rfl rfl (fun ⟨j, h1, h2, _⟩ => by subst h2; cases h1)) ?_
     refine VA.take (i := 3) rfl (by kernel_rfl) (by kernel_rfl) (by kernel_rfl) rfl rfl (OpV.fieldAddrO 1 rfl Tryz.underlying166 rfl rfl Tryz.sizeOf3 rfl) ?_
     refine VA.takeT [4, 5, 6, 7, 8] (i := 4) (by kernel_rfl) (by kernel_rfl) rfl (by kernel_rfl) (by kernel_rfl) (by kernel_rfl) rfl rfl (OpV.load_own (i := 1) rfl hB Tryz.isAgg3 rfl rfl rfl (fun ⟨j, h1, h2, _⟩ => by subst h2; cases h1)) ?_
     refine VA.le _ (Le.recast (t := 82) (y := avI ((r.getD k default).count.toNat : Int)) rfl (fun w Z u h => by rw [Int.toNat_of_nonneg (hrb k (by omega)).1]; exact h)) ?_
     refine VA.all (rs := [5]) (by kernel_rfl) (by decide) ?_
     refine ⟨⟨_, rfl, .inl rfl, ?_⟩, trivial⟩
     refine OpE.call rfl hB rfl Tryz.call130 rfl (SpecN.spec (itoa_100 (i := (r.getD k default).count.toNat) (by have := hrb k (by omega); omega))) ?_
     rintro _ rfl
     refine VA.take (i := 6) rfl (by kernel_rfl) (by kernel_rfl) (by kernel_rfl) rfl rfl (OpV.build (pls := #[(0, 1), (1, 1)]) rfl Tryz.zeroValue71 Tryz.underlying71 (fun w => by kernel_rfl) rfl rfl) ?_
     refine VA.all (rs := [7]) (by kernel_rfl) (by decide) ?_
     refine ⟨⟨_, rfl, .inl rfl, ?_⟩, trivial⟩
     refine OpE.buildSlice (zc := #[.string ⟨#[]⟩, .string ⟨#[]⟩]) rfl hB rfl Tryz.underlying56 Tryz.sizeOf71 Tryz.zeroValue71 (by decide) (by decide) (by kernel_rfl) rfl rfl ?_
     refine VA.all (rs := [8]) (by kernel_rfl) (by decide) ?_
     refine ⟨⟨_, rfl, .inl rfl, ?_⟩, trivial⟩
     refine OpE.append1 (i := 0) rfl hB rfl Tryz.underlying56 (infoOf Tryz.t71 2 (by kernel_rfl) rfl rfl) rfl (by decide) (by decide) rfl rfl rfl rfl (rowL_snoc _ (⟨(r.getD k default).key, decB (r.getD k default).count.toNat⟩ : PairS)) (by omega) (fun _ h => ⟨rfl, h⟩) ?_
     intro u86
     refine VA.take (i := 9) rfl (by kernel_rfl) (by kernel_rfl) (by kernel_rfl) rfl rfl (OpV.move (.inr rfl) rfl) ?_
     refine VA.done (by kernel_rfl) ?_
     refine VC.region ?_
     refine VO.val rfl rfl (OpV.add rfl rfl rfl (by unfold fits; omega)) ?_
     refine VO.mv rfl rfl rfl rfl ?_
     refine VO.nil ?_
     exact Exists.intro (⟨(u86, k + 1), by show _ ≤ _; omega⟩) (And.intro (Le.mk hB [0] ⟨rfl, rfl, rfl, rfl, trivial⟩ rfl (by dsimp only; rw [rwOut_take (by omega)]; rfl) (Nat.le_refl _)) (by first | omega | (show _ < _; omega) | (simp only []; omega)))
    ·have aH2 := aH2b
     try simp only [qqT, qqF, qqN, qqM, qqL, qqE] at aH2
     obtain rfl : k = r.length := by omega
     rw [rwOut_all]
     refine VC.exit ?_
     refine VC.sr ?_
     refine VO.mv rfl rfl rfl rfl ?_
     refine VO.ma rfl rfl rfl rfl ?_
     refine VO.ma rfl rfl rfl rfl ?_
     refine VO.nil ?_
     refine VC.ret ?_
     exact Exists.intro _ (And.intro (RetN.two Tryz.results35 (ResN.rowT (i := 0) (xs := rwOut r) rfl rfl (rwOut_len r).symm (flat_pairs _)) (ResN.v rfl)) (by rw [if_pos (by omega), show leastE l n = 0 by omega, rowsL, hrr]))
   ·intro j56 hj56 hn56
    have hsd2 : (j56 :: seen).Nodup := List.nodup_cons.2 ⟨hn56, hsd⟩
    have hsn2 : ∀ j ∈ j56 :: seen, j < (rwS l).2.length := fun j hj => (List.mem_cons.1 hj).elim (fun e => e ▸ hj56) (hsn j)
    have hsl2 := seen_len hsd2 hsn2
    have hsl3 : (j56 :: seen).length = seen.length + 1 := rfl
    refine VO.val rfl rfl (OpV.extract rfl rfl rfl) ?_
    refine VO.nil ?_
    refine VC.seq ?_
    refine VC.condT rfl rfl ?_
    refine VC.skip ?_
    refine VC.block ?_
    refine VC.sr ?_
    refine VO.val rfl rfl (OpV.entryM (i := 0) rfl hB rfl rfl) ?_
    refine VO.val rfl rfl (OpV.extract rfl rfl rfl) ?_
    refine VO.val rfl rfl (OpV.extract rfl rfl rfl) ?_
    refine VO.ma rfl rfl rfl rfl ?_
    refine VO.ma rfl rfl rfl rfl ?_
    refine VO.nil ?_
    refine VC.sr ?_
    refine VO.mv rfl rfl rfl rfl ?_
    refine VO.mv rfl rfl rfl rfl ?_
    refine VO.val rfl rfl (OpV.geq rfl rfl rfl) ?_
    refine VO.nil ?_
    refine VC.cond rfl (fun h4b => ?_) (fun h4b => ?_)
    ·have h4 := h4b
     try simp only [qqT, qqF, qqN, qqM, qqL, qqE] at h4
     refine VC.region ?_
     refine VO.mv rfl rfl rfl rfl ?_
     refine VO.mv rfl rfl rfl rfl ?_
     refine VO.mv rfl rfl rfl rfl ?_
     refine VO.val rfl rfl (OpV.build (pls := #[(0, 1), (1, 1)]) rfl Tryz.zeroValue166 Tryz.underlying166 (fun w => by kernel_rfl) rfl rfl) ?_
     refine VO.op rfl (OpE.buildSlice (zc := #[.string ⟨#[]⟩, .int .i64 0]) rfl hB rfl Tryz.underlying164 Tryz.sizeOf166 Tryz.zeroValue166 (by decide) (by decide) (by kernel_rfl) rfl rfl ?_)
     refine VO.op rfl (OpE.append1 (i := 1) rfl hB rfl Tryz.underlying164 (infoOf Tryz.t166 2 (by kernel_rfl) rfl rfl) rfl (by decide) (by decide) rfl rfl rfl rfl (rowL_snoc _ (ndOf ((rwS l).2.getD j56 default))) (by omega) (fun _ _ => trivial) ?_)
     intro u69
     refine VO.ma rfl rfl rfl rfl ?_
     refine VO.nil ?_
     exact Exists.intro (⟨(u69, j56 :: seen), hsd2, hsn2⟩) (And.intro (Le.mk hB [0, 1] ⟨rfl, rfl, rfl, trivial⟩ rfl (by dsimp only; first | (rw [pickR_yes h4, List.length_append]; rfl) | (rw [pickR_no (by omega)]; rfl)) (Nat.le_refl _)) (by first | omega | (show _ < _; omega) | (simp only []; omega)))
    ·have h4 := h4b
     try simp only [qqT, qqF, qqN, qqM, qqL, qqE] at h4
     refine VC.skip ?_
     exact Exists.intro (⟨(u, j56 :: seen), hsd2, hsn2⟩) (And.intro (Le.mk hB [0, 1] ⟨rfl, rfl, rfl, trivial⟩ rfl (by dsimp only; first | (rw [pickR_yes h4, List.length_append]; rfl) | (rw [pickR_no (by omega)]; rfl)) (Nat.le_refl _)) (by first | omega | (show _ < _; omega) | (simp only []; omega)))
end Go.Proofs.YtdnlhdilpdeecaaGreatDoor
namespace Go.Proofs.YtdnlhdilpdeecaaGreatDoor
open Go.RowKit
set_option linter.unusedVariables false
set_option linter.unusedSimpArgs false
theorem rwS_key {l : List LookS} {n : Int} {x : NeedS} (h : x ∈ rowsU (rwS l).2 n) : x.key ∈ l.map (·.name) := by
 obtain ⟨h1, _⟩ := List.mem_filter.1 h
 obtain ⟨p, hp, rfl⟩ := List.mem_map.1 h1
 have h2 : p.1 ∈ (rwS l).2.map (·.1) := List.mem_map_of_mem hp
 rcases rwS_sub l ([], []) p.1 h2 with h | h
 ·cases h
 ·exact h
theorem names_few {m : Nat} {l : List LookS} (hk : ∀ x ∈ l, LkG m x) (h0 : lookF l = 0) : (uK (l.map (·.name))).length ≤ 12 := by
 have h := uK_few (l := l.map (·.name)) (N := nm3) (fun x hx => by
  obtain ⟨y, hy, rfl⟩ := List.mem_map.1 hx
  obtain ⟨i, hi, rfl⟩ := List.getElem_of_mem hy
  have h1 := (lookE_zero ((lookOk h0).all i hi)).keys
  have h2 := (hk _ hy).name
  have e : l.getD i default = l[i] := by rw [List.getD_eq_getElem?_getD, List.getElem?_eq_getElem hi]; rfl
  rw [e] at h1
  refine h2.2 ?_
  simp [lkStrs] at h1
  exact h1.2.1)
 have h3 : nm3.length = 3 := rfl
 omega
end Go.Proofs.YtdnlhdilpdeecaaGreatDoor
namespace Go.Proofs.YtdnlhdilpdeecaaGreatDoor
open Go.RowKit
set_option linter.unusedVariables false
set_option linter.unusedSimpArgs false
def runN (x : List LookS) : Nat × Nat := x.foldl (fun s y => if y.bad = true then (s.1 + 1, max s.2 (s.1 + 1)) else (0, s.2)) (0, 0)
theorem runN_snoc (x : List LookS) (y : LookS) : runN (x ++ [y]) = if y.bad = true then ((runN x).1 + 1, max (runN x).2 ((runN x).1 + 1)) else (0, (runN x).2) := by
 unfold runN; rw [List.foldl_append]; rfl
def WinA (x : List LookS) (i n : Nat) : Prop := i + n ≤ x.length ∧ ∀ j, i ≤ j → j < i + n → (x.getD j default).bad = true
def Win (x : List LookS) (n : Nat) : Prop := ∃ i, WinA x i n
theorem getD_app1 {α : Type} {x : List α} {y d : α} {j : Nat} (h : j < x.length) : (x ++ [y]).getD j d = x.getD j d := by
 simp [List.getD_eq_getElem?_getD, List.getElem?_append_left h]
theorem getD_app2 {α : Type} {x : List α} {y d : α} : (x ++ [y]).getD x.length d = y := by
 simp [List.getD_eq_getElem?_getD]
theorem winA_in {x : List LookS} {y : LookS} {i n : Nat} (h : i + n ≤ x.length) : WinA (x ++ [y]) i n ↔ WinA x i n := by
 unfold WinA
 rw [List.length_append]
 constructor
 ·rintro ⟨h1, h2⟩
  exact ⟨h, fun j k1 k2 => by rw [← getD_app1 (y := y) (show j < x.length by omega)]; exact h2 j k1 k2⟩
 ·rintro ⟨h1, h2⟩
  exact ⟨by omega, fun j k1 k2 => by rw [getD_app1 (show j < x.length by omega)]; exact h2 j k1 k2⟩
theorem winA_end {x : List LookS} {y : LookS} {i n : Nat} (h : i + (n + 1) = x.length + 1) : WinA (x ++ [y]) i (n + 1) ↔ (y.bad = true ∧ WinA x i n) := by
 unfold WinA
 rw [List.length_append]
 constructor
 ·rintro ⟨h1, h2⟩
  refine ⟨?_, by omega, fun j k1 k2 => by rw [← getD_app1 (y := y) (show j < x.length by omega)]; exact h2 j k1 (by omega)⟩
  have := h2 x.length (by omega) (by omega)
  rw [getD_app2] at this; exact this
 ·rintro ⟨hy, h1, h2⟩
  refine ⟨by show i + (n + 1) ≤ x.length + 1; omega, fun j k1 k2 => ?_⟩
  by_cases hj : j < x.length
  ·rw [getD_app1 hj]; exact h2 j k1 (by omega)
  ·obtain rfl : j = x.length := by omega
   rw [getD_app2]; exact hy
theorem win_run : ∀ (m : Nat) (x : List LookS), x.length = m → (∀ n, (n ≤ x.length ∧ WinA x (x.length - n) n) ↔ n ≤ (runN x).1) ∧ (∀ n, Win x n ↔ n ≤ (runN x).2)
 | 0, x, h => by
  have : x = [] := List.eq_nil_of_length_eq_zero h
  subst this
  have e : runN [] = (0, 0) := rfl
  rw [e]
  constructor
  ·intro n
   constructor
   ·rintro ⟨h1, _⟩; exact h1
   ·intro h1
    exact ⟨h1, by show _ + n ≤ 0; have : n ≤ 0 := h1; show 0 - n + n ≤ 0; omega, fun j k1 k2 => by have : n ≤ 0 := h1; omega⟩
  ·intro n
   constructor
   ·rintro ⟨i, h1, _⟩
    have h1 : i + n ≤ 0 := h1
    show n ≤ 0; omega
   ·intro h1
    have h1 : n ≤ 0 := h1
    exact ⟨0, by show 0 + n ≤ 0; omega, fun j k1 k2 => by omega⟩
 | m + 1, x, h => by
  have hne : x ≠ [] := fun e => by rw [e] at h; simp at h
  obtain ⟨x', y, rfl⟩ : ∃ x' y, x = x' ++ [y] := ⟨x.dropLast, x.getLast hne, (List.dropLast_concat_getLast hne).symm⟩
  have hl : x'.length = m := by simpa using h
  obtain ⟨ih1, ih2⟩ := win_run m x' hl
  have hlen : (x' ++ [y]).length = x'.length + 1 := by simp
  rw [runN_snoc]
  constructor
  ·intro n
   rw [hlen]
   cases n with
   | zero =>
    constructor
    ·intro _; exact Nat.zero_le _
    ·intro _; exact ⟨Nat.zero_le _, by rw [hlen]; exact Nat.le_refl _, fun j k1 k2 => by omega⟩
   | succ n =>
    by_cases hb : y.bad = true
    ·rw [if_pos hb]
     constructor
     ·rintro ⟨h1, h2⟩
      have h3 := ((winA_end (by omega)).1 h2).2
      have h4 := (ih1 n).1 ⟨by omega, by rw [show x'.length - n = x'.length + 1 - (n + 1) by omega]; exact h3⟩
      show n + 1 ≤ (runN x').1 + 1; omega
     ·intro h1
      have h1 : n + 1 ≤ (runN x').1 + 1 := h1
      obtain ⟨k1, k2⟩ := (ih1 n).2 (by omega)
      exact ⟨by omega, (winA_end (by omega)).2 ⟨hb, by rw [show x'.length + 1 - (n + 1) = x'.length - n by omega]; exact k2⟩⟩
    ·rw [if_neg hb]
     constructor
     ·rintro ⟨h1, h2⟩
      exact absurd ((winA_end (by omega)).1 h2).1 hb
     ·intro h1
      have h1 : n + 1 ≤ 0 := h1
      omega
  ·intro n
   cases n with
   | zero =>
    constructor
    ·intro _; exact Nat.zero_le _
    ·intro _; exact ⟨0, by rw [hlen]; exact Nat.zero_le _, fun j k1 k2 => by omega⟩
   | succ n =>
    have key : Win (x' ++ [y]) (n + 1) ↔ (Win x' (n + 1) ∨ (y.bad = true ∧ n ≤ (runN x').1)) := by
     constructor
     ·rintro ⟨i, hi⟩
      have hle := hi.1
      rw [hlen] at hle
      by_cases hc : i + (n + 1) ≤ x'.length
      ·exact .inl ⟨i, (winA_in hc).1 hi⟩
      ·have k := (winA_end (by omega)).1 hi
       exact .inr ⟨k.1, (ih1 n).1 ⟨by omega, by rw [show x'.length - n = i by omega]; exact k.2⟩⟩
     ·rintro (⟨i, hi⟩ | ⟨hb, hn⟩)
      ·exact ⟨i, (winA_in hi.1).2 hi⟩
      ·obtain ⟨k1, k2⟩ := (ih1 n).2 hn
       exact ⟨x'.length - n, (winA_end (by omega)).2 ⟨hb, k2⟩⟩
    rw [key, ih2 (n + 1)]
    by_cases hb : y.bad = true
    ·rw [if_pos hb]
     show _ ↔ n + 1 ≤ max (runN x').2 ((runN x').1 + 1)
     constructor
     ·rintro (h1 | ⟨_, h1⟩) <;> omega
     ·intro h1
      by_cases hc : n + 1 ≤ (runN x').2
      ·exact .inl hc
      ·exact .inr ⟨hb, by omega⟩
    ·rw [if_neg hb]
     show _ ↔ n + 1 ≤ (runN x').2
     constructor
     ·rintro (h1 | ⟨h1, _⟩)
      ·exact h1
      ·exact absurd h1 hb
     ·exact .inl
theorem winR {x : List LookS} {n : Nat} : Win x n ↔ n ≤ (runN x).2 := (win_run _ x rfl).2 n
theorem bad_all {x : List LookS} {i n : Nat} (h : i + n ≤ x.length) : badN ((x.drop i).take n) = n ↔ WinA x i n := by
 have hl : ((x.drop i).take n).length = n := by rw [List.length_take, List.length_drop]; omega
 have e : badN ((x.drop i).take n) = n ↔ ∀ z ∈ (x.drop i).take n, z.bad = true := by
  rw [← List.length_filter_eq_length_iff, hl]; rfl
 rw [e]
 constructor
 ·intro hz
  refine ⟨h, fun j k1 k2 => hz _ ?_⟩
  rw [List.mem_take_iff_getElem]
  refine ⟨j - i, by rw [List.length_drop]; omega, ?_⟩
  rw [List.getElem_drop, List.getD_eq_getElem?_getD, List.getElem?_eq_getElem (by omega)]
  simp only [show i + (j - i) = j by omega, Option.getD_some]
 ·rintro ⟨_, h2⟩ z hz
  rw [List.mem_take_iff_getElem] at hz
  obtain ⟨j, hj, rfl⟩ := hz
  rw [List.length_drop] at hj
  rw [List.getElem_drop]
  have := h2 (i + j) (by omega) (by omega)
  rw [List.getD_eq_getElem?_getD, List.getElem?_eq_getElem (by omega)] at this
  exact this
abbrev ofN (l : List LookS) (k : ByteArray) : List LookS := l.filter fun x => sEq x.name k
def lrn (l : List LookS) (k : ByteArray) : Nat := (runN (ofN l k)).2
theorem ofN_take {l : List LookS} {q : Nat} (h : q < l.length) (k : ByteArray) : ofN (l.take (q + 1)) k = ofN (l.take q) k ++ if (l.getD q default).name = k then [l.getD q default] else [] := by
 have : l.take (q + 1) = l.take q ++ [l.getD q default] := by
  rw [List.take_succ_eq_append_getElem h]; simp [List.getD_eq_getElem?_getD, h]
 rw [this]
 unfold ofN
 rw [List.filter_append, List.filter_cons, List.filter_nil]
 by_cases e : (l.getD q default).name = k
 ·rw [if_pos (sEq_eq.2 e), if_pos e]
 ·rw [if_neg (fun h => e (sEq_eq.1 h)), if_neg e]
theorem rwS_run {l : List LookS} : ∀ q, q ≤ l.length → ∀ k, mgetD (rwS (l.take q)).1 k 0 = ((runN (ofN (l.take q) k)).1 : Int) ∧ mgetD (rwS (l.take q)).2 k 0 = ((runN (ofN (l.take q) k)).2 : Int)
 | 0, _, k => by
  rw [List.take_zero]
  exact ⟨rfl, rfl⟩
 | q + 1, h, k => by
  have ih := rwS_run (l := l) q (by omega)
  rw [rwS_take (by omega), ofN_take (by omega)]
  simp only
  by_cases e : (l.getD q default).name = k
  ·subst e
   have ihk := ih (l.getD q default).name
   rw [if_pos rfl, runN_snoc]
   by_cases hb : (l.getD q default).bad = true
   ·rw [if_pos hb]
    unfold rwNow rwMost
    rw [if_pos hb, if_pos hb, mgetD_mput, if_pos rfl, mgetD_mput, if_pos rfl, ihk.1, ihk.2]
    constructor
    ·simp
    ·simp only []; omega
   ·rw [if_neg hb]
    unfold rwNow rwMost
    rw [if_neg hb, if_neg hb, mgetD_mput, if_pos rfl]
    exact ⟨rfl, ihk.2⟩
  ·have ihk := ih k
   rw [if_neg e, List.append_nil]
   unfold rwNow rwMost
   constructor
   ·rw [mgetD_mput, if_neg (fun h => e h.symm)]; exact ihk.1
   ·split
    ·rw [mgetD_mput, if_neg (fun h => e h.symm)]; exact ihk.2
    ·exact ihk.2
theorem rwS_lrn (l : List LookS) (k : ByteArray) : mgetD (rwS l).2 k 0 = (lrn l k : Int) := by
 have := (rwS_run (l := l) l.length (Nat.le_refl _) k).2
 rw [List.take_length] at this; exact this
theorem lrn_le (l : List LookS) (k : ByteArray) : lrn l k ≤ l.length := by
 have h1 := rwS_lrn l k
 have h2 := (rwS_bd (l := l) l.length (Nat.le_refl _) k).2.2
 rw [List.take_length] at h2
 omega
abbrev nmK (l : List LookS) : List ByteArray := uK (l.map (·.name))
def isRun (l : List LookS) (n : Nat) (k : ByteArray) : Bool := decide (lrn l k = n)
def rowsK (l : List LookS) (n r : Nat) : List NeedS := (((nmK l).take r).filter (isRun l n)).map fun k => ⟨k, (n : Int)⟩
def rowsAt (l : List LookS) (n : Nat) : List NeedS := rowsK l n (nmK l).length
def rowsN (l : List LookS) : Nat → List NeedS
 | 0 => []
 | m + 1 => rowsN l m ++ rowsAt l (l.length - m)
theorem rowsK_0 (l : List LookS) (n : Nat) : rowsK l n 0 = [] := rfl
theorem rowsK_yes {l : List LookS} {n r : Nat} (h : r < (nmK l).length) (hb : isRun l n ((nmK l).getD r ByteArray.empty) = true) : rowsK l n (r + 1) = rowsK l n r ++ [⟨(nmK l).getD r ByteArray.empty, n⟩] := by
 have : (nmK l).take (r + 1) = (nmK l).take r ++ [(nmK l).getD r ByteArray.empty] := by
  rw [List.take_succ_eq_append_getElem h]; simp [List.getD_eq_getElem?_getD, h]
 unfold rowsK
 rw [this, List.filter_append, List.filter_cons, if_pos hb, List.map_append]; rfl
theorem rowsK_no {l : List LookS} {n r : Nat} (h : r < (nmK l).length) (hb : isRun l n ((nmK l).getD r ByteArray.empty) = false) : rowsK l n (r + 1) = rowsK l n r := by
 have : (nmK l).take (r + 1) = (nmK l).take r ++ [(nmK l).getD r ByteArray.empty] := by
  rw [List.take_succ_eq_append_getElem h]; simp [List.getD_eq_getElem?_getD, h]
 unfold rowsK
 rw [this, List.filter_append, List.filter_cons, if_neg (by rw [hb]; simp), List.map_append]; simp
theorem rowsK_len (l : List LookS) (n r : Nat) : (rowsK l n r).length ≤ l.length := by
 unfold rowsK
 rw [List.length_map]
 have h1 := List.length_filter_le (isRun l n) ((nmK l).take r)
 have h2 : ((nmK l).take r).length ≤ (nmK l).length := by rw [List.length_take]; omega
 have h3 := uK_len (l.map fun x => x.name)
 rw [List.length_map] at h3
 have h4 : (nmK l).length ≤ l.length := h3
 omega
theorem rowsAt_mem {l : List LookS} {n : Nat} {x : NeedS} : x ∈ rowsAt l n ↔ (x.key ∈ l.map (·.name) ∧ lrn l x.key = n ∧ x.count = n) := by
 unfold rowsAt rowsK
 rw [List.take_length, List.mem_map]
 constructor
 ·rintro ⟨k, hk, rfl⟩
  obtain ⟨h1, h2⟩ := List.mem_filter.1 hk
  exact ⟨uK_mem.1 h1, of_decide_eq_true h2, rfl⟩
 ·rintro ⟨h1, h2, h3⟩
  refine ⟨x.key, List.mem_filter.2 ⟨uK_mem.2 h1, decide_eq_true h2⟩, ?_⟩
  cases x; simp only at h3; subst h3; rfl
theorem rowsAt_nodup (l : List LookS) (n : Nat) : (rowsAt l n).Nodup := by
 unfold rowsAt rowsK
 rw [List.take_length]
 exact List.pairwise_map.2 (((uK_srt (l.map fun x => x.name)).nd.sublist List.filter_sublist).imp fun {a b} hne (e : (⟨a, (n : Int)⟩ : NeedS) = ⟨b, (n : Int)⟩) => hne (congrArg NeedS.key e))
theorem rowsAt_ord (l : List LookS) (n : Nat) : OrdL ltRw (rowsAt l n) := by
 unfold OrdL rowsAt rowsK
 rw [List.take_length]
 refine List.pairwise_map.2 (((uK_srt (l.map fun x => x.name)).ord.sublist List.filter_sublist).imp fun {a b} h => ?_)
 rw [Bool.eq_false_iff]
 intro e
 rcases ltRw_iff.1 e with e | ⟨_, e⟩
 ·simp at e
 ·rw [h] at e; cases e
theorem rowsN_mem {l : List LookS} {x : NeedS} : ∀ {m : Nat}, m ≤ l.length + 1 → (x ∈ rowsN l m ↔ (x.key ∈ l.map (·.name) ∧ x.count = lrn l x.key ∧ (l.length : Int) - m < x.count))
 | 0, _ => by
  constructor
  ·intro h; cases h
  ·rintro ⟨_, h2, h3⟩
   have := lrn_le l x.key
   omega
 | m + 1, h => by
  have ih := rowsN_mem (l := l) (x := x) (m := m) (by omega)
  rw [rowsN, List.mem_append, ih, rowsAt_mem]
  constructor
  ·rintro (⟨h1, h2, h3⟩ | ⟨h1, h2, h3⟩)
   ·exact ⟨h1, h2, by omega⟩
   ·exact ⟨h1, by omega, by omega⟩
  ·rintro ⟨h1, h2, h3⟩
   by_cases hc : (l.length : Int) - m < x.count
   ·exact .inl ⟨h1, h2, hc⟩
   ·exact .inr ⟨h1, by omega, by omega⟩
theorem rowsN_ok {l : List LookS} : ∀ {m : Nat}, m ≤ l.length + 1 → (rowsN l m).Nodup ∧ OrdL ltRw (rowsN l m)
 | 0, _ => ⟨List.nodup_nil, List.Pairwise.nil⟩
 | m + 1, h => by
  obtain ⟨ih1, ih2⟩ := rowsN_ok (l := l) (m := m) (by omega)
  rw [rowsN]
  constructor
  ·refine List.nodup_append.2 ⟨ih1, rowsAt_nodup l _, fun a ha b hb e => ?_⟩
   subst e
   have h1 := ((rowsN_mem (by omega)).1 ha).2.2
   have h2 := (rowsAt_mem.1 hb).2.2
   omega
  ·refine List.pairwise_append.2 ⟨ih2, rowsAt_ord l _, fun a ha b hb => ?_⟩
   have h1 := ((rowsN_mem (by omega)).1 ha).2.2
   have h2 := (rowsAt_mem.1 hb).2.2
   rw [Bool.eq_false_iff]
   intro e
   rcases ltRw_iff.1 e with e | ⟨e, _⟩ <;> omega
theorem mgetD_no {m : RwM} {k : ByteArray} (h : k ∉ m.map (·.1)) : mgetD m k 0 = 0 := by
 induction m with
 | nil => rfl
 | cons p m ih =>
  have h1 : k ≠ p.1 := fun e => h (by rw [e]; exact List.mem_cons_self ..)
  have h2 := ih (fun e => h (List.mem_cons_of_mem _ e))
  unfold mgetD at h2 ⊢
  rw [mget, if_neg h1]; exact h2
theorem rowsR_N {l : List LookS} {n : Int} (h : 1 ≤ n) (m : Nat) (hm : (m : Int) = max 0 ((l.length : Int) + 1 - n)) : rowsR (rwS l).2 n = rowsN l m := by
 have hml : m ≤ l.length + 1 := by omega
 obtain ⟨k1, k2⟩ := rowsN_ok (l := l) hml
 have hnd : (rowsR (rwS l).2 n).Nodup := (rowsR_perm _ _).nodup_iff.2 (rowsU_nodup (rwS_nodup l))
 refine ord_unique (lt := ltRw) ((List.perm_ext_iff_of_nodup hnd k1).2 fun x => ?_) hnd (fun a _ b _ hne h => ltRw_tot hne h) (rowsR_ord _ _) k2
 rw [(rowsR_perm _ _).mem_iff, rowsN_mem hml]
 constructor
 ·intro hx
  have h1 := rowsU_mem (rwS_nodup l) hx
  have h2 := rwS_lrn l x.key
  have h3 : n ≤ x.count := of_decide_eq_true (List.mem_filter.1 hx).2
  exact ⟨rwS_key hx, by omega, by omega⟩
 ·rintro ⟨h1, h2, h3⟩
  have h4 := rwS_lrn l x.key
  have h5 : n ≤ x.count := by
   have := lrn_le l x.key
   omega
  have hk : x.key ∈ (rwS l).2.map (·.1) := Classical.byContradiction fun hne => by
   have := mgetD_no hne
   omega
  obtain ⟨p, hp, e⟩ := List.mem_map.1 hk
  refine List.mem_filter.2 ⟨List.mem_map.2 ⟨p, hp, ?_⟩, decide_eq_true h5⟩
  have h6 := mget_mem (rwS_nodup l) hp
  rw [e] at h6
  cases x
  simp only at e h2 h4 h6
  unfold ndOf
  rw [e, ← h6, h4, h2]
theorem rowsL_N {l : List LookS} {n : Int} (h : 1 ≤ n) (m : Nat) (hm : (m : Int) = max 0 ((l.length : Int) + 1 - n)) : rowsL l n = rwOut (rowsN l m) := by rw [rowsL, rowsR_N h m hm]
theorem rowsN_len {l : List LookS} {m : Nat} (hm : m ≤ l.length + 1) : (rowsN l m).length ≤ l.length := by
 have h1 : ((rowsN l m).map NeedS.key).Nodup := by
  refine List.pairwise_map.2 ?_
  refine (List.Pairwise.imp_of_mem (fun {a b} ha hb hne e => hne ?_) (rowsN_ok hm).1)
  have h2 := (rowsN_mem hm).1 ha
  have h3 := (rowsN_mem hm).1 hb
  cases a; cases b
  simp only at e h2 h3
  subst e
  rw [h2.2.1, h3.2.1]
 have h2 := h1.length_le_of_subset (l₂ := l.map fun x => x.name) fun k hk => by
  obtain ⟨x, hx, rfl⟩ := List.mem_map.1 hk
  exact ((rowsN_mem hm).1 hx).1
 rw [List.length_map, List.length_map] at h2
 exact h2
end Go.Proofs.YtdnlhdilpdeecaaGreatDoor
namespace Go.Proofs.YtdnlhdilpdeecaaGreatDoor
open Go.RowKit
set_option linter.unusedVariables false
set_option linter.unusedSimpArgs false
abbrev bxN2 (g : Nat) (n : Int) : Ent := .box g ⟨[avI n], 3, 1⟩
theorem flat_looksP (xs : List LookS) : FlatA (rowL xs) := flat_rowL (fun x j hj => by
 match j, hj with
 | 0, _ => exact ⟨_, rfl⟩
 | 1, _ => exact ⟨_, rfl⟩
 | 2, _ => exact ⟨_, rfl⟩
 | 3, _ => exact ⟨_, rfl⟩
 | 4, _ => exact ⟨_, rfl⟩
 | 5, _ => exact ⟨_, rfl⟩
 | 6, _ => exact ⟨_, rfl⟩
 | 7, _ => exact ⟨_, rfl⟩) xs
set_option maxRecDepth 100000 in
theorem rf_PositionsOf1 {x : LookS}  :
  SpecH Tryz.prog 144 [avT x] [] (fun y hp' => y = avS x.name ∧ hp' = []) := by
 refine SpecH.of_VC Tryz.func144 rfl Tryz.ntmps144 (Nle rfl) fun w A hB => ?_
 have hnew : True := trivial
 refine VC.sr ?_
 refine VO.op rfl (OpE.box rfl hB rfl rfl rfl ?_)
 intro g1
 refine VO.ma rfl rfl rfl rfl ?_
 refine VO.nil ?_
 refine VC.sr ?_
 refine VO.val rfl rfl (OpV.fieldAddrO 1 rfl Tryz.underlying80 rfl rfl Tryz.sizeOf9 rfl) ?_
 refine VO.val rfl rfl (OpV.load_own (i := 0) rfl hB Tryz.isAgg9 rfl rfl rfl (fun h => h)) ?_
 refine VO.ma rfl rfl rfl rfl ?_
 refine VO.nil ?_
 refine VC.le _ (Le.drop 1) ?_
 refine VC.ret ?_
 exact Exists.intro _ (And.intro (RetV.one Tryz.results144 (ResV.tmp rfl)) (⟨rfl, rfl⟩))
set_option maxRecDepth 100000 in
theorem rf_of1 {x : LookS} {g : Nat} {k : ByteArray}  :
  SpecH Tryz.prog 213 [avT x, pt g] [bxS g k] (fun y hp' => y = avB (sEq x.name k) ∧ hp' = [bxS g k]) := by
 refine SpecH.of_VC Tryz.func213 rfl Tryz.ntmps213 (Nle rfl) fun w A hB => ?_
 have hnew : True := trivial
 refine VC.sr ?_
 refine VO.op rfl (OpE.box rfl hB rfl rfl rfl ?_)
 intro g2
 refine VO.ma rfl rfl rfl rfl ?_
 refine VO.nil ?_
 refine VC.sr ?_
 refine VO.val rfl rfl (OpV.fieldAddrO 1 rfl Tryz.underlying80 rfl rfl Tryz.sizeOf9 rfl) ?_
 refine VO.val rfl rfl (OpV.load_own (i := 1) rfl hB Tryz.isAgg9 rfl rfl rfl (fun h => h)) ?_
 refine VO.val rfl rfl (OpV.load_own (i := 0) rfl hB Tryz.isAgg9 rfl rfl rfl (fun h => h)) ?_
 refine VO.val rfl rfl (OpV.seql rfl rfl rfl) ?_
 refine VO.ma rfl rfl rfl rfl ?_
 refine VO.nil ?_
 refine VC.le _ (Le.pickH [0] rfl rfl) ?_
 refine VC.ret ?_
 exact Exists.intro _ (And.intro (RetV.one Tryz.results213 (ResV.tmp rfl)) (⟨rfl, rfl⟩))
set_option maxRecDepth 100000 in
theorem rf_of {l : List LookS} {k : ByteArray} (hl : l.length ≤ 1000000) :
  SpecN Tryz.prog 146 [avL l, avS k] (fun y => y = avL (l.filter fun x => sEq x.name k)) := by
 refine SpecN.of_VCN Tryz.func146 rfl Tryz.ntmps146 (Nle rfl) fun w A hB => ?_
 have hnew : True := trivial
 refine VC.sr ?_
 refine VO.op rfl (OpE.box rfl hB rfl rfl rfl ?_)
 intro g3
 refine VO.ma rfl rfl rfl rfl ?_
 refine VO.nil ?_
 refine VC.sr ?_
 refine VO.mv rfl rfl rfl rfl ?_
 refine VO.val rfl rfl (OpV.makeFunc1 rfl rfl) ?_
 refine VO.op rfl (OpE.callH0 rfl hB rfl Tryz.call136 rfl rfl (rf_which (l := l) (hpC := [bxS g3 k]) (p := fun x => sEq x.name k) hl Tryz.call213 (fun x => rf_of1)) (List.Perm.refl _) (fun _ _ => trivial) ?_)
 rintro _ _ ⟨u7, rfl, rfl⟩
 refine VO.ma rfl rfl rfl rfl ?_
 refine VO.nil ?_
 refine VC.ret ?_
 exact Exists.intro _ (And.intro (RetN.one Tryz.results146 (ResN.rowT (i := 0) (xs := l.filter fun x => sEq x.name k) rfl rfl rfl (flat_looksP _))) (rfl))
set_option maxRecDepth 100000 in
theorem rf_PositionsOf2 {k : ByteArray} {g g2 : Nat} {l : List LookS} {n : Int} (hl : l.length ≤ 1000000) :
  SpecH Tryz.prog 145 [avS k, pt g, pt g2] [bxL g l, bxN2 g2 n] (fun y hp' => y = avB (decide ((badF (·.name) l k : Int) < n)) ∧ hp' = [bxL g l, bxN2 g2 n]) := by
 refine SpecH.of_VC Tryz.func145 rfl Tryz.ntmps145 (Nle rfl) fun w A hB => ?_
 have hnew : True := trivial
 refine VC.seq ?_
 have hfl : (l.filter fun x => sEq x.name k).length ≤ l.length := List.length_filter_le _ _
 refine VC.region ?_
 refine VO.ma rfl rfl rfl rfl ?_
 refine VO.nil ?_
 refine VC.seq ?_
 refine VC.draw (fun _ => NoB) hB (by kernel_rfl) ?_
 refine VA.take (i := 0) rfl (by kernel_rfl) (by kernel_rfl) (by kernel_rfl) rfl rfl (OpV.load_own (i := 0) rfl hB Tryz.isAgg54 rfl rfl rfl Wi.not0) ?_
 refine VA.take (i := 1) rfl (by kernel_rfl) (by kernel_rfl) (by kernel_rfl) rfl rfl (OpV.move (.inl rfl) rfl) ?_
 refine VA.take (i := 4) rfl (by kernel_rfl) (by kernel_rfl) (by kernel_rfl) rfl rfl (OpV.load_own (i := 1) rfl hB Tryz.isAgg3 rfl rfl rfl Wi.not0) ?_
 refine VA.all (rs := [2]) (by kernel_rfl) (by decide) ?_
 refine ⟨⟨_, rfl, .inl rfl, ?_⟩, trivial⟩
 refine OpE.call rfl hB rfl Tryz.call146 rfl (SpecN.spec (rf_of hl)) ?_
 rintro _ rfl
 refine VA.all (rs := [3]) (by kernel_rfl) (by decide) ?_
 refine ⟨⟨_, rfl, .inl rfl, ?_⟩, trivial⟩
 refine OpE.call rfl hB rfl Tryz.call142 rfl (SpecN.spec (rf_bad (by omega))) ?_
 rintro _ rfl
 refine VA.take (i := 5) rfl (by kernel_rfl) (by kernel_rfl) (by kernel_rfl) rfl rfl (OpV.lss rfl rfl rfl) ?_
 refine VA.take (i := 6) rfl (by kernel_rfl) (by kernel_rfl) (by kernel_rfl) rfl rfl (OpV.move (.inr rfl) rfl) ?_
 refine VA.done (by kernel_rfl) ?_
 refine VC.ret ?_
 exact Exists.intro _ (And.intro (RetV.one Tryz.results145 (ResV.tmp rfl)) (⟨by rw [← badF_eq (fun x => x.name)], rfl⟩))
set_option maxRecDepth 100000 in
set_option maxHeartbeats 4000000 in
theorem rf_PositionsOf {l : List LookS} {n : Int} (hs : SmLk l) :
  SpecN Tryz.prog 41 [avL l, avI n] (fun y => y = avStrs (psN l n)) := by
 refine SpecN.of_VCN Tryz.func41 rfl Tryz.ntmps41 (Nle rfl) fun w A hB => ?_
 have hnew : True := trivial
 refine VC.seq ?_
 have hl := hs.len
 have hkl : (uK (l.map (·.name))).length ≤ 1000000 := by have h := uK_len (l.map fun x => x.name); rw [List.length_map] at h; omega
 refine VC.region ?_
 refine VO.op rfl (OpE.box rfl hB rfl rfl rfl ?_)
 intro g2
 refine VO.op rfl (OpE.box rfl hB rfl rfl rfl ?_)
 intro g3
 refine VO.ma rfl rfl rfl rfl ?_
 refine VO.nil ?_
 refine VC.sr ?_
 refine VO.val rfl rfl (OpV.load_own (i := 0) rfl hB Tryz.isAgg54 rfl rfl rfl (fun h => h)) ?_
 refine VO.op rfl (OpE.callH (hp := []) (rest := [_, _]) rfl hB rfl Tryz.call139 rfl rfl (rf_keys (l := l) (hpC := []) (f := fun x => x.name) hl Tryz.call144 (fun x => rf_PositionsOf1)) (List.Perm.refl _) (fun _ _ => trivial) ?_)
 rintro _ _ ⟨u6, rfl, rfl⟩
 refine VO.val rfl rfl (OpV.makeFunc2 rfl rfl rfl) ?_
 refine VO.op rfl (OpE.callH0 rfl hB rfl Tryz.call88 rfl rfl (slices_DeleteFunc_str (xs := uK (l.map (·.name))) (caps := #[ptv g2, ptv g3]) (hpC := [bxL g2 l, bxN2 g3 n]) (p := fun k => decide ((badF (·.name) l k : Int) < n)) (by omega) Tryz.call145 (fun x => rf_PositionsOf2 hl)) (List.Perm.refl _) (fun _ _ => trivial) ?_)
 rintro _ _ ⟨u8, rfl, rfl⟩
 refine VO.ma rfl rfl rfl rfl ?_
 refine VO.nil ?_
 refine VC.ret ?_
 exact Exists.intro _ (And.intro (RetN.one Tryz.results41 (ResN.rowS (i := 0) (xs := psN l n) rfl rfl rfl)) (rfl))
end Go.Proofs.YtdnlhdilpdeecaaGreatDoor
namespace Go.Proofs.YtdnlhdilpdeecaaGreatDoor
open Go.RowKit
set_option linter.unusedVariables false
set_option linter.unusedSimpArgs false
set_option maxRecDepth 100000 in
theorem rf_RowsOf1 {x : LookS}  :
  SpecH Tryz.prog 147 [avT x] [] (fun y hp' => y = avS x.name ∧ hp' = []) := by
 refine SpecH.of_VC Tryz.func147 rfl Tryz.ntmps147 (Nle rfl) fun w A hB => ?_
 have hnew : True := trivial
 refine VC.sr ?_
 refine VO.op rfl (OpE.box rfl hB rfl rfl rfl ?_)
 intro g1
 refine VO.ma rfl rfl rfl rfl ?_
 refine VO.nil ?_
 refine VC.sr ?_
 refine VO.val rfl rfl (OpV.fieldAddrO 1 rfl Tryz.underlying80 rfl rfl Tryz.sizeOf9 rfl) ?_
 refine VO.val rfl rfl (OpV.load_own (i := 0) rfl hB Tryz.isAgg9 rfl rfl rfl (fun h => h)) ?_
 refine VO.ma rfl rfl rfl rfl ?_
 refine VO.nil ?_
 refine VC.le _ (Le.drop 1) ?_
 refine VC.ret ?_
 exact Exists.intro _ (And.intro (RetV.one Tryz.results147 (ResV.tmp rfl)) (⟨rfl, rfl⟩))
def winB (x : List LookS) (n : Nat) : Bool := decide (n ≤ (runN x).2)
theorem winB_yes {x : List LookS} {i n : Nat} (h : i + n ≤ x.length) (hb : badN ((x.drop i).take n) = n) : winB x n = true := decide_eq_true (winR.1 ⟨i, (bad_all h).1 hb⟩)
theorem winB_no {x : List LookS} {n : Nat} (h : ∀ i, i + n ≤ x.length → ¬ badN ((x.drop i).take n) = n) : winB x n = false := decide_eq_false fun e => by
 obtain ⟨i, hi⟩ := winR.2 e
 exact h i hi.1 ((bad_all hi.1).2 hi)
theorem drop_cut (x : List LookS) (i n : Nat) : (x.take (i + n)).drop i = (x.drop i).take n := by rw [List.drop_take]; congr 1; omega
set_option maxRecDepth 100000 in
set_option maxHeartbeats 4000000 in
theorem rf_RowsOf2 {x : List LookS} {n : Nat} (hl : x.length ≤ 1000000) (hn : n ≤ 1000001) :
  Spec Tryz.prog 148 [avI (n : Int), .at_ 1 (fun _ => avL x)] (fun y => y = avB (winB x n)) := by
 refine Spec.of_VC Tryz.func148 rfl Tryz.ntmps148 (Nle rfl) fun w A hB => ?_
 have hnew : True := trivial
 refine VC.sr ?_
 refine VO.ma rfl rfl rfl rfl ?_
 refine VO.nil ?_
 refine VC.seq ?_
 refine VC.sr ?_
 refine VO.ma rfl rfl rfl rfl ?_
 refine VO.nil ?_
 refine VC.block ?_
 refine VC.loopK [(0, _), (1, _)] ⟨rfl, rfl, trivial⟩ ({q : Nat // q ≤ x.length + 1 ∧ ∀ j, j < q → j + n ≤ x.length → ¬ badN ((x.drop j).take n) = n}) (fun (iZ : {q : Nat // q ≤ x.length + 1 ∧ ∀ j, j < q → j + n ≤ x.length → ¬ badN ((x.drop j).take n) = n}) => match iZ with | ⟨q, hq, hno⟩ => [(4, avI (q : Int))]) (fun (iZ : {q : Nat // q ≤ x.length + 1 ∧ ∀ j, j < q → j + n ≤ x.length → ¬ badN ((x.drop j).take n) = n}) => match iZ with | ⟨q, hq, hno⟩ => []) (fun (iZ : {q : Nat // q ≤ x.length + 1 ∧ ∀ j, j < q → j + n ≤ x.length → ¬ badN ((x.drop j).take n) = n}) => match iZ with | ⟨q, hq, hno⟩ => 0) (fun (iZ : {q : Nat // q ≤ x.length + 1 ∧ ∀ j, j < q → j + n ≤ x.length → ¬ badN ((x.drop j).take n) = n}) => match iZ with | ⟨q, hq, hno⟩ => x.length + 1 - q) ⟨0, Nat.zero_le _, fun j hj => absurd hj (Nat.not_lt_zero j)⟩ (Le.mk hB [] ⟨rfl, rfl, rfl, trivial⟩ rfl rfl (Nat.le_refl _)) ?_
 rintro ⟨q, hq, hno⟩
 show VC _ _ _ _ ⟨[(4, avI (q : Int))] ++ [(0, _), (1, _)], [], 0⟩
 refine VC.seq ?_
 refine VC.sr ?_
 refine VO.mv rfl rfl rfl rfl ?_
 refine VO.mv rfl rfl rfl rfl ?_
 refine VO.val rfl rfl (OpV.add rfl rfl rfl (by unfold fits; omega)) ?_
 refine VO.val rfl rfl (OpV.load_at rfl hB OutW.no Tryz.isAgg54 rfl rfl) ?_
 refine VO.val rfl rfl (OpV.len_im rfl Tryz.underlying54 rfl) ?_
 refine VO.val rfl rfl (OpV.leq rfl rfl rfl) ?_
 refine VO.nil ?_
 refine VC.cond rfl (fun aH1b => ?_) (fun aH1b => ?_)
 ·have aH1 := aH1b
  try simp only [qqT, qqF, qqN, qqM, qqL, qqE] at aH1
  refine VC.skip ?_
  refine VC.seq ?_
  refine VC.block ?_
  refine VC.sr ?_
  refine VO.val rfl rfl (OpV.load_at rfl hB OutW.no Tryz.isAgg54 rfl rfl) ?_
  refine VO.mv rfl rfl rfl rfl ?_
  refine VO.mv rfl rfl rfl rfl ?_
  refine VO.mv rfl rfl rfl rfl ?_
  refine VO.val rfl rfl (OpV.add rfl rfl rfl (by unfold fits; omega)) ?_
  refine VO.val rfl rfl (OpV.slice_L (h := q + n) rfl Tryz.underlying54 Tryz.sizeOf80 rfl ⟨_, _, rfl, rfl⟩ ⟨_, _, rfl, by omega⟩ (by omega) (by omega)) ?_
  have hqn : q + n ≤ x.length := by omega
  refine VO.le _ (Le.recast (t := 18) (y := avL ((x.drop q).take n)) rfl (fun w Z u h => by rw [← drop_cut]; exact h)) ?_
  have hbl : ((x.drop q).take n).length ≤ 1000000 := by rw [List.length_take, List.length_drop]; omega
  refine VO.op rfl (OpE.call rfl hB rfl Tryz.call142 rfl (SpecN.spec (rf_bad hbl)) ?_)
  rintro _ rfl
  refine VO.mv rfl rfl rfl rfl ?_
  refine VO.val rfl rfl (OpV.eql rfl rfl rfl) ?_
  refine VO.nil ?_
  refine VC.cond rfl (fun h1b => ?_) (fun h1b => ?_)
  ·have h1 := h1b
   try simp only [qqT, qqF, qqN, qqM, qqL, qqE] at h1
   refine VC.sr ?_
   refine VO.ma rfl rfl rfl rfl ?_
   refine VO.nil ?_
   refine VC.ret ?_
   exact Exists.intro _ (And.intro (RetV.one Tryz.results148 (ResV.tmp rfl)) (by rw [winB_yes (i := q) hqn (by omega)]))
  ·have h1 := h1b
   try simp only [qqT, qqF, qqN, qqM, qqL, qqE] at h1
   have hbn : ¬ badN ((x.drop q).take n) = n := by omega
   refine VC.skip ?_
   refine VC.region ?_
   refine VO.mv rfl rfl rfl rfl ?_
   refine VO.val rfl rfl (OpV.add rfl rfl rfl (by unfold fits; omega)) ?_
   refine VO.ma rfl rfl rfl rfl ?_
   refine VO.nil ?_
   exact Exists.intro (⟨q + 1, by omega, fun j hj hj2 => by by_cases e : j = q; (subst e; exact hbn); exact hno j (by omega) hj2⟩) (And.intro (Le.mk hB [] ⟨rfl, rfl, rfl, trivial⟩ rfl rfl (Nat.le_refl _)) (by first | omega | (show _ < _; omega) | (simp only []; omega)))
 ·have aH1 := aH1b
  try simp only [qqT, qqF, qqN, qqM, qqL, qqE] at aH1
  refine VC.exit ?_
  refine VC.sr ?_
  refine VO.ma rfl rfl rfl rfl ?_
  refine VO.nil ?_
  refine VC.ret ?_
  exact Exists.intro _ (And.intro (RetV.one Tryz.results148 (ResV.tmp rfl)) (by rw [winB_no fun i hi => hno i (by omega) hi]))
theorem isRun_yes {l : List LookS} {N : Nat} {k : ByteArray} (h1 : winB (ofN l k) N = true) (h2 : winB (ofN l k) (N + 1) = false) : isRun l N k = true := by
 have k1 : N ≤ lrn l k := of_decide_eq_true h1
 have k2 : ¬ N + 1 ≤ lrn l k := of_decide_eq_false h2
 exact decide_eq_true (by omega)
theorem isRun_no1 {l : List LookS} {N : Nat} {k : ByteArray} (h1 : winB (ofN l k) N = false) : isRun l N k = false := by
 have k1 : ¬ N ≤ lrn l k := of_decide_eq_false h1
 exact decide_eq_false (by omega)
theorem isRun_no2 {l : List LookS} {N : Nat} {k : ByteArray} (h2 : winB (ofN l k) (N + 1) = true) : isRun l N k = false := by
 have k2 : N + 1 ≤ lrn l k := of_decide_eq_true h2
 exact decide_eq_false (by omega)
theorem rwOut_app (a b : List NeedS) : rwOut (a ++ b) = rwOut a ++ rwOut b := by simp [rwOut]
theorem rwOut_yes {l : List LookS} {m N r : Nat} {k : ByteArray} (hk : (nmK l).getD r ByteArray.empty = k) (h : r < (nmK l).length) (hb : isRun l N k = true) : rwOut (rowsN l m ++ rowsK l N (r + 1)) = rwOut (rowsN l m ++ rowsK l N r) ++ [⟨k, decB N⟩] := by
 subst hk
 rw [rowsK_yes h hb, ← List.append_assoc, rwOut_app]; rfl
theorem rwOut_no {l : List LookS} {m N r : Nat} {k : ByteArray} (hk : (nmK l).getD r ByteArray.empty = k) (h : r < (nmK l).length) (hb : isRun l N k = false) : rwOut (rowsN l m ++ rowsK l N (r + 1)) = rwOut (rowsN l m ++ rowsK l N r) := by
 subst hk
 rw [rowsK_no h hb]
set_option maxRecDepth 100000 in
set_option maxHeartbeats 8000000 in
theorem rf_RowsOf {l : List LookS} {n : Int} (hs : SmLk l) (h100 : l.length < 100) (h1 : 1 ≤ n) :
  SpecN Tryz.prog 42 [avL l, avI n] (fun y => y = avL (rowsL l n)) := by
 refine SpecN.of_VCN Tryz.func42 rfl Tryz.ntmps42 (Nle rfl) fun w A hB => ?_
 have hnew : True := trivial
 refine VC.seq ?_
 have hl := hs.len
 have hkl : (nmK l).length ≤ l.length := by have h := uK_len (l.map fun x => x.name); rw [List.length_map] at h; exact h
 refine VC.region ?_
 refine VO.ma rfl rfl rfl rfl ?_
 refine VO.nil ?_
 refine VC.sr ?_
 refine VO.ma rfl rfl rfl rfl ?_
 refine VO.nil ?_
 refine VC.seq ?_
 refine VC.sr ?_
 refine VO.mv rfl rfl rfl rfl ?_
 refine VO.val rfl rfl (OpV.len_im rfl Tryz.underlying54 rfl) ?_
 refine VO.ma rfl rfl rfl rfl ?_
 refine VO.nil ?_
 refine VC.block ?_
 refine VC.le _ (Le.nilRow 2 71) ?_
 refine VC.loopK [(0, _), (1, _)] ⟨rfl, rfl, trivial⟩ ({z : Value × Nat // (z.2 : Int) ≤ max 0 ((l.length : Int) + 1 - n)}) (fun (iZ : {z : Value × Nat // (z.2 : Int) ≤ max 0 ((l.length : Int) + 1 - n)}) => match iZ with | ⟨⟨u, m⟩, hm⟩ => [(5, .v u), (6, avI ((l.length - m : Nat) : Int))]) (fun (iZ : {z : Value × Nat // (z.2 : Int) ≤ max 0 ((l.length : Int) + 1 - n)}) => match iZ with | ⟨⟨u, m⟩, hm⟩ => [.row u (rwOut (rowsN l m)).length 2 (rowL (rwOut (rowsN l m))) 71]) (fun (iZ : {z : Value × Nat // (z.2 : Int) ≤ max 0 ((l.length : Int) + 1 - n)}) => match iZ with | ⟨⟨u, m⟩, hm⟩ => 0) (fun (iZ : {z : Value × Nat // (z.2 : Int) ≤ max 0 ((l.length : Int) + 1 - n)}) => match iZ with | ⟨⟨u, m⟩, hm⟩ => l.length + 1 - m) ⟨(.slice none 0 0, 0), by show ((0 : Nat) : Int) ≤ _; omega⟩ (Le.mk hB [0] ⟨rfl, rfl, rfl, rfl, trivial⟩ rfl rfl (Nat.le_refl _)) ?_
 rintro ⟨⟨u, m⟩, hm⟩
 show VC _ _ _ _ ⟨[(5, .v u), (6, avI ((l.length - m : Nat) : Int))] ++ [(0, _), (1, _)], [.row u (rwOut (rowsN l m)).length 2 (rowL (rwOut (rowsN l m))) 71], 0⟩
 simp only at hm
 have hml : m ≤ l.length := by omega
 refine VC.seq ?_
 refine VC.sr ?_
 refine VO.mv rfl rfl rfl rfl ?_
 refine VO.mv rfl rfl rfl rfl ?_
 refine VO.val rfl rfl (OpV.geq rfl rfl rfl) ?_
 refine VO.nil ?_
 refine VC.cond rfl (fun aH1b => ?_) (fun aH1b => ?_)
 ·have aH1 := aH1b
  try simp only [qqT, qqF, qqN, qqM, qqL, qqE] at aH1
  refine VC.skip ?_
  refine VC.seq ?_
  refine VC.block ?_
  refine VC.seq ?_
  obtain ⟨N, hN⟩ : ∃ N : Nat, l.length - m = N := ⟨_, rfl⟩
  have hNs : ((l.length - (m + 1) : Nat) : Int) = (N : Int) - 1 := by omega
  rw [hN]
  refine VC.region ?_
  refine VO.mv rfl rfl rfl rfl ?_
  refine VO.op rfl (OpE.callH (hp := []) (rest := [_]) rfl hB rfl Tryz.call139 rfl rfl (rf_keys (l := l) (hpC := []) (f := fun x => x.name) hl Tryz.call147 (fun x => rf_RowsOf1)) (List.Perm.refl _) (fun _ _ => trivial) ?_)
  rintro _ _ ⟨u19, rfl, rfl⟩
  refine VO.le _ (Le.rowS (t := 19) (i := 0) (xs := nmK l) hB hnew rfl rfl rfl) ?_
  refine VO.val rfl rfl (OpV.len_im rfl Tryz.underlying29 rfl) ?_
  refine VO.mv rfl rfl rfl rfl ?_
  refine VO.nil ?_
  refine VC.block ?_
  refine VC.loopK [(0, _), (1, _), (6, _), (19, _), (20, _)] ⟨rfl, rfl, rfl, rfl, rfl, trivial⟩ ({z : Value × Nat // z.2 ≤ (nmK l).length}) (fun (iZ : {z : Value × Nat // z.2 ≤ (nmK l).length}) => match iZ with | ⟨⟨u2, r⟩, hr⟩ => [(5, .v u2), (21, avI (r : Int))]) (fun (iZ : {z : Value × Nat // z.2 ≤ (nmK l).length}) => match iZ with | ⟨⟨u2, r⟩, hr⟩ => [.row u2 (rwOut (rowsN l m ++ rowsK l N r)).length 2 (rowL (rwOut (rowsN l m ++ rowsK l N r))) 71]) (fun (iZ : {z : Value × Nat // z.2 ≤ (nmK l).length}) => match iZ with | ⟨⟨u2, r⟩, hr⟩ => 0) (fun (iZ : {z : Value × Nat // z.2 ≤ (nmK l).length}) => match iZ with | ⟨⟨u2, r⟩, hr⟩ => (nmK l).length - r) ⟨(u, 0), Nat.zero_le _⟩ (Le.mk hB [0] ⟨rfl, rfl, rfl, rfl, rfl, rfl, rfl, trivial⟩ rfl (by dsimp only; rw [rowsK_0, List.append_nil]; rfl) (Nat.le_refl _)) ?_
  rintro ⟨⟨u2, r⟩, hr⟩
  show VC _ _ _ _ ⟨[(5, .v u2), (21, avI (r : Int))] ++ [(0, _), (1, _), (6, _), (19, _), (20, _)], [.row u2 (rwOut (rowsN l m ++ rowsK l N r)).length 2 (rowL (rwOut (rowsN l m ++ rowsK l N r))) 71], 0⟩
  simp only at hr
  have hrl1 := rowsK_len l N r
  have hrl2 := rowsN_len (l := l) (m := m) (by omega)
  have hrl : (rwOut (rowsN l m ++ rowsK l N r)).length ≤ 200 := by { rw [rwOut_len, List.length_append]; omega }
  refine VC.sr ?_
  refine VO.val rfl rfl (OpV.lss rfl rfl rfl) ?_
  refine VO.nil ?_
  refine VC.seq ?_
  refine VC.cond rfl (fun aH2b => ?_) (fun aH2b => ?_)
  ·have aH2 := aH2b
   try simp only [qqT, qqF, qqN, qqM, qqL, qqE] at aH2
   refine VC.skip ?_
   refine VC.seq ?_
   refine VC.block ?_
   refine VC.seq ?_
   obtain ⟨k, hk⟩ : ∃ k, (nmK l).getD r ByteArray.empty = k := ⟨_, rfl⟩
   refine VC.region ?_
   refine VO.val rfl rfl (OpV.indexAddr_1 rfl Tryz.underlying29 Tryz.sizeOf9 rfl rfl rfl (by omega)) ?_
   refine VO.val rfl rfl (OpV.load_at rfl hB OutW.no Tryz.isAgg9 rfl rfl) ?_
   refine VO.le _ (Le.recast (t := 24) (y := avS k) rfl (fun w Z u h => by rw [← hk]; exact h)) ?_
   refine VO.ma rfl rfl rfl rfl ?_
   refine VO.nil ?_
   refine VC.sr ?_
   refine VO.mv rfl rfl rfl rfl ?_
   refine VO.mv rfl rfl rfl rfl ?_
   refine VO.op rfl (OpE.call rfl hB rfl Tryz.call146 rfl (SpecN.spec (rf_of hl)) ?_)
   rintro _ rfl
   have hol : (ofN l k).length ≤ l.length := List.length_filter_le _ _
   refine VO.op rfl (OpE.alloc rfl hB rfl Tryz.zeroValue54 rfl ?_)
   intro g9
   refine VO.op rfl (OpE.store (i := 1) rfl hB rfl Tryz.sizeOf54 rfl rfl rfl rfl rfl rfl (Nle rfl) trivial ?_)
   refine VO.nil ?_
   refine VC.seq ?_
   refine VC.le _ (Le.freezeAt (t := 9) (m := 1) (f := fun _ => avL (ofN l k)) (i := 1) rfl rfl (Nat.le_refl _) (fun w Z u h => h.at_congr (g := fun _ => avL (ofN l k)) (fun j hj => by rcases j with _ | j <;> first | rfl | omega)) hnew hB) ?_
   refine VC.region ?_
   refine VO.val rfl rfl (OpV.makeFuncF1 rfl rfl) ?_
   refine VO.ma rfl rfl rfl rfl ?_
   refine VO.nil ?_
   refine VC.sr ?_
   refine VO.mv rfl rfl rfl rfl ?_
   refine VO.mv rfl rfl rfl rfl ?_
   refine VO.op rfl (OpE.callF rfl hB rfl Tryz.call148 rfl rfl (rf_RowsOf2 (x := ofN l k) (n := N) (by omega) (by omega)) ?_)
   rintro _ rfl
   refine VO.mv rfl rfl rfl rfl ?_
   refine VO.opG rfl rfl rfl rfl (fun aK3b => ?_) (fun aK3b => ?_)
   ·replace aK3b : _ = true := aK3b
    have aK3 := aK3b
    try simp only [qqT, qqF, qqN, qqM, qqL, qqE] at aK3
    refine OpE.val (W := NoB) (OpV.move (.inl rfl) rfl) rfl ?_
    refine VO.opY rfl rfl rfl rfl aK3b ?_
    refine OpE.val (W := NoB) (OpV.move (.inl rfl) rfl) rfl ?_
    refine VO.opY rfl rfl rfl rfl aK3b ?_
    refine OpE.val (W := NoB) (OpV.add rfl rfl rfl (by unfold fits; omega)) rfl ?_
    refine VO.opY rfl rfl rfl rfl aK3b ?_
    refine OpE.callF rfl hB rfl Tryz.call148 rfl rfl (rf_RowsOf2 (x := ofN l k) (n := N + 1) (by omega) (by omega)) ?_
    rintro _ rfl
    refine VO.opY rfl rfl rfl rfl aK3b ?_
    refine OpE.val (W := NoB) (OpV.not rfl rfl) rfl ?_
    refine VO.val rfl rfl (OpV.pickT rfl rfl rfl rfl aK3b) ?_
    refine VO.nil ?_
    refine VC.cond rfl (fun h2b => ?_) (fun h2b => ?_)
    ·have h2 := h2b
     try simp only [qqT, qqF, qqN, qqM, qqL, qqE] at h2
     have hyes : isRun l N k = true := isRun_yes (by assumption) (by simp_all)
     refine VC.region ?_
     refine VO.mv rfl rfl rfl rfl ?_
     refine VO.mv rfl rfl rfl rfl ?_
     refine VO.mv rfl rfl rfl rfl ?_
     refine VO.op rfl (OpE.call rfl hB rfl Tryz.call130 rfl (SpecN.spec (itoa_100 (by omega))) ?_)
     rintro _ rfl
     refine VO.val rfl rfl (OpV.build (pls := #[(0, 1), (1, 1)]) rfl Tryz.zeroValue71 Tryz.underlying71 (fun w => by kernel_rfl) rfl rfl) ?_
     refine VO.op rfl (OpE.buildSlice (zc := #[.string ⟨#[]⟩, .string ⟨#[]⟩]) rfl hB rfl Tryz.underlying56 Tryz.sizeOf71 Tryz.zeroValue71 (by decide) (by decide) (by kernel_rfl) rfl rfl ?_)
     refine VO.op rfl (OpE.append1 (i := 0) rfl hB rfl Tryz.underlying56 (infoOf Tryz.t71 2 (by kernel_rfl) rfl rfl) rfl (by decide) (by decide) rfl rfl rfl rfl (rowL_snoc _ (⟨k, decB N⟩ : PairS)) (by omega) (fun _ _ => trivial) ?_)
     intro u45
     refine VO.ma rfl rfl rfl rfl ?_
     refine VO.nil ?_
     refine VC.region ?_
     refine VO.val rfl rfl (OpV.add rfl rfl rfl (by unfold fits; omega)) ?_
     refine VO.mv rfl rfl rfl rfl ?_
     refine VO.nil ?_
     exact Exists.intro (⟨(u45, r + 1), by show r + 1 ≤ _; omega⟩) (And.intro (Le.mk hB [0] ⟨rfl, rfl, rfl, rfl, rfl, rfl, rfl, trivial⟩ rfl (by dsimp only; first | (rw [rwOut_yes hk (by omega) hyes, List.length_append]; rfl) | (rw [rwOut_no hk (by omega) hno]; rfl)) (Nat.le_refl _)) (by first | omega | (show _ < _; omega) | (simp only []; omega)))
    ·have h2 := h2b
     try simp only [qqT, qqF, qqN, qqM, qqL, qqE] at h2
     have hno : isRun l N k = false := isRun_no2 (by simp_all)
     refine VC.skip ?_
     refine VC.region ?_
     refine VO.val rfl rfl (OpV.add rfl rfl rfl (by unfold fits; omega)) ?_
     refine VO.mv rfl rfl rfl rfl ?_
     refine VO.nil ?_
     exact Exists.intro (⟨(u2, r + 1), by show r + 1 ≤ _; omega⟩) (And.intro (Le.mk hB [0] ⟨rfl, rfl, rfl, rfl, rfl, rfl, rfl, trivial⟩ rfl (by dsimp only; first | (rw [rwOut_yes hk (by omega) hyes, List.length_append]; rfl) | (rw [rwOut_no hk (by omega) hno]; rfl)) (Nat.le_refl _)) (by first | omega | (show _ < _; omega) | (simp only []; omega)))
   ·replace aK3b : _ = false := aK3b
    have aK3 := aK3b
    try simp only [qqT, qqF, qqN, qqM, qqL, qqE] at aK3
    refine VO.opX rfl rfl rfl rfl aK3b ?_
    refine VO.opX rfl rfl rfl rfl aK3b ?_
    refine VO.opX rfl rfl rfl rfl aK3b ?_
    refine VO.opX rfl rfl rfl rfl aK3b ?_
    refine VO.val rfl rfl (OpV.pickF rfl rfl rfl rfl aK3b) ?_
    refine VO.nil ?_
    refine VC.condF rfl rfl ?_
    have hno : isRun l N k = false := isRun_no1 (by assumption)
    refine VC.skip ?_
    refine VC.region ?_
    refine VO.val rfl rfl (OpV.add rfl rfl rfl (by unfold fits; omega)) ?_
    refine VO.mv rfl rfl rfl rfl ?_
    refine VO.nil ?_
    exact Exists.intro (⟨(u2, r + 1), by show r + 1 ≤ _; omega⟩) (And.intro (Le.mk hB [0] ⟨rfl, rfl, rfl, rfl, rfl, rfl, rfl, trivial⟩ rfl (by dsimp only; first | (rw [rwOut_yes hk (by omega) hyes, List.length_append]; rfl) | (rw [rwOut_no hk (by omega) hno]; rfl)) (Nat.le_refl _)) (by first | omega | (show _ < _; omega) | (simp only []; omega)))
  ·have aH2 := aH2b
   try simp only [qqT, qqF, qqN, qqM, qqL, qqE] at aH2
   obtain rfl : r = (nmK l).length := by omega
   have hlast : rowsK l N (nmK l).length = rowsAt l (l.length - m) := by rw [hN]; rfl
   rw [hlast]
   refine VC.exit ?_
   refine VC.region ?_
   refine VO.mv rfl rfl rfl rfl ?_
   refine VO.val rfl rfl (OpV.sub rfl rfl rfl (by unfold fits; omega)) ?_
   refine VO.ma rfl rfl rfl rfl ?_
   refine VO.nil ?_
   exact Exists.intro (⟨(u2, m + 1), by show ((m + 1 : Nat) : Int) ≤ _; omega⟩) (And.intro (Le.mk hB [0] ⟨rfl, (by rw [hNs]; rfl), rfl, rfl, trivial⟩ rfl (by dsimp only; rw [rowsN]; rfl) (Nat.le_refl _)) (by first | omega | (show _ < _; omega) | (simp only []; omega)))
 ·have aH1 := aH1b
  try simp only [qqT, qqF, qqN, qqM, qqL, qqE] at aH1
  have hme : (m : Int) = max 0 ((l.length : Int) + 1 - n) := by omega
  refine VC.exit ?_
  refine VC.sr ?_
  refine VO.mv rfl rfl rfl rfl ?_
  refine VO.ma rfl rfl rfl rfl ?_
  refine VO.nil ?_
  refine VC.ret ?_
  exact Exists.intro _ (And.intro (RetN.one Tryz.results42 (ResN.rowT (i := 0) (xs := rwOut (rowsN l m)) rfl rfl rfl (flat_pairs _))) (by rw [rowsL_N h1 m hme]))
end Go.Proofs.YtdnlhdilpdeecaaGreatDoor
namespace Go.Proofs.YtdnlhdilpdeecaaGreatDoor
open Go.RowKit
set_option linter.unusedVariables false
set_option linter.unusedSimpArgs false
theorem jud_2 (a b : Int) : errsF [a, b] = if a ≠ 0 then a else b := by
 by_cases h1 : a = 0 <;> by_cases h2 : b = 0 <;> simp [errsF, h1, h2]
theorem jud_e1 {a : List LookS} {n : Int} : errsF [lookF a, if outR n 1 5000 = true then 1 else 0] = leastE a n := by rw [jud_2]; rfl
theorem jud_psN (l : List LookS) (n : Int) : (psN l n).length ≤ l.length := by
 have h1 := uK_len (l.map fun x => x.name)
 rw [List.length_map] at h1
 exact Nat.le_trans (List.length_filter_le _ _) h1
theorem jud_gdB (l : List LookS) : (gdB l).length ≤ l.length := by
 have h1 := uK_len (l.map fun x => x.board)
 rw [List.length_map] at h1
 exact Nat.le_trans (List.length_filter_le _ _) h1
theorem jud_rows (l : List LookS) (n : Int) : (rowsL l n).length ≤ l.length := by
 unfold rowsL
 rw [rwOut_len, (rowsR_perm _ _).length_eq]
 have h1 : (rowsU (rwS l).2 n).length ≤ (rwS l).2.length := by
  unfold rowsU
  refine Nat.le_trans (List.length_filter_le _ _) ?_
  rw [List.length_map]; exact Nat.le_refl _
 have h2 := rwS_len (l := l) (Nat.le_refl _)
 have h3 := uK_len (l.map fun x => x.name)
 rw [List.length_map] at h3
 exact Nat.le_trans h1 (Nat.le_trans h2 h3)
theorem jud_some {α : Type} {c : Prop} [Decidable c] {x : List α} {n : Nat} (h : x.length ≤ n) : ∃ y, (if c then x else []) = y ∧ y.length ≤ n := ⟨_, rfl, by split; exact h; exact Nat.zero_le _⟩
set_option maxRecDepth 100000 in
set_option maxHeartbeats 40000000 in
theorem boardsJudged_any (a0 : Option Addr) (cap0 : Nat) (L : List Int) (w : World) (hin : Inp w a0 L) :
  Calls Tryz.prog 4 #[.slice a0 L.length cap0] w fun e w' => e = .returned (.bool true) ∧ Chg NoB w w' := by
 refine law_calls Tryz.func4 rfl Tryz.ntmps4 (Nle rfl) Tryz.results4 ?_
 have hB := B0.ok w (fun _ => True) 114
 have hnew : True := trivial
 refine VC.sr ?_
 refine VO.ma rfl rfl rfl rfl ?_
 refine VO.nil ?_
 refine VC.sr ?_
 refine VO.mv rfl rfl rfl rfl ?_
 refine VO.val rfl rfl (OpV.build (pls := #[(0, 1), (1, 1)]) rfl Tryz.zeroValue25 Tryz.underlying25 (fun w => by kernel_rfl) rfl rfl) ?_
 refine VO.op rfl (OpE.box rfl hB rfl rfl rfl ?_)
 intro g
 refine VO.ma rfl rfl rfl rfl ?_
 refine VO.nil ?_
 refine VC.stream (i := 0) (sl := [(3, sp g)]) (by exact rfl) (by exact rfl) hin (by exact ⟨rfl, trivial⟩) (fun p hp => by simp at hp; subst hp; exact ⟨_, rfl⟩) (fun w1 hge hB => ?_)
 refine VC.sr ?_
 refine VO.mv rfl rfl rfl rfl ?_
 refine VO.mv rfl rfl rfl rfl ?_
 refine VO.op rfl (OpE.callT' (0) rfl rfl hB rfl Tryz.call10 rfl ((range_T (by omega) (by omega) (by omega))) (by omega) ?_)
 rintro _ ⟨r25, hr25, rfl⟩
 obtain ⟨na, rfl⟩ : ∃ na : Nat, r25 = na := ⟨r25.toNat, by omega⟩
 refine VO.op rfl (OpE.callTO (0 + 1) rfl rfl hB rfl Tryz.call31 rfl (looks_O (by omega)) (by omega) ?_)
 rintro _ _ ⟨a, ua, hal, rfl, rfl⟩
 refine VO.le _ (Le.rowT (t := 26) (i := 0) (xs := a) hB hnew rfl rfl rfl) ?_
 refine VO.mv rfl rfl rfl rfl ?_
 refine VO.op rfl (OpE.buildSlice (zc := #[.int .i64 0, .int .i64 0, .int .i64 0, .int .i64 0, .int .i64 0, .int .i64 0]) rfl hB rfl Tryz.underlying22 Tryz.sizeOf3 Tryz.zeroValue3 (by decide) (by decide) (by kernel_rfl) rfl rfl ?_)
 refine VO.op rfl (OpE.callT' (0 + 1 + 200) rfl rfl hB rfl Tryz.call14 rfl (pick_X (by rfl) (by decide) (by decide) (by repeat (first | exact AllX.nil | refine AllX.cons ?_))) (by omega) ?_)
 rintro _ ⟨least, rfl⟩
 refine VO.ma rfl rfl rfl rfl ?_
 refine VO.ma rfl rfl rfl rfl ?_
 refine VO.nil ?_
 refine VC.seq ?_
 have hak : ∀ x ∈ a, LkG 6 x := fun x hx => (hal.2 x hx).mono (by omega)
 have ha18 : a.length ≤ 18 := by omega
 have hs := LkG.sm hak (by omega)
 obtain ⟨ex, hex, hexl⟩ := jud_some (c := lookF a = 0) (escS_len a)
 obtain ⟨gd, hgd, hgdl⟩ := jud_some (c := lookF a = 0) (jud_gdB a)
 obtain ⟨ps, hps, hpsl⟩ := jud_some (c := leastE a least = 0) (jud_psN a least)
 obtain ⟨rw_, hrw, hrwl⟩ := jud_some (c := leastE a least = 0) (jud_rows a least)
 refine VC.region ?_
 refine VO.mv rfl rfl rfl rfl ?_
 refine VO.op rfl (OpE.call rfl hB rfl Tryz.call32 rfl (SpecN.spec (inspect_Escapes hs)) ?_)
 rintro _ rfl
 refine VO.le _ (Le.recast (t := 32) (y := .tup [avL ex, avI (lookF a)]) rfl (fun w Z u h => by rw [← hex]; exact h)) ?_
 refine VO.mv rfl rfl rfl rfl ?_
 refine VO.val rfl rfl (OpV.extract rfl rfl rfl) ?_
 refine VO.val rfl rfl (OpV.extract rfl rfl rfl) ?_
 refine VO.ma rfl rfl rfl rfl ?_
 refine VO.ma rfl rfl rfl rfl ?_
 refine VO.nil ?_
 refine VC.sr ?_
 refine VO.mv rfl rfl rfl rfl ?_
 refine VO.op rfl (OpE.call rfl hB rfl Tryz.call33 rfl (SpecN.spec (inspect_GoodBoards hs)) ?_)
 rintro _ rfl
 refine VO.le _ (Le.recast (t := 37) (y := .tup [avStrs gd, avI (lookF a)]) rfl (fun w Z u h => by rw [← hgd]; exact h)) ?_
 refine VO.mv rfl rfl rfl rfl ?_
 refine VO.val rfl rfl (OpV.extract rfl rfl rfl) ?_
 refine VO.val rfl rfl (OpV.extract rfl rfl rfl) ?_
 refine VO.ma rfl rfl rfl rfl ?_
 refine VO.ma rfl rfl rfl rfl ?_
 refine VO.nil ?_
 refine VC.sr ?_
 refine VO.mv rfl rfl rfl rfl ?_
 refine VO.mv rfl rfl rfl rfl ?_
 refine VO.op rfl (OpE.call rfl hB rfl Tryz.call34 rfl (SpecN.spec (inspect_Positions hs)) ?_)
 rintro _ rfl
 refine VO.le _ (Le.recast (t := 43) (y := .tup [avStrs ps, avI (leastE a least)]) rfl (fun w Z u h => by rw [← hps]; exact h)) ?_
 refine VO.mv rfl rfl rfl rfl ?_
 refine VO.val rfl rfl (OpV.extract rfl rfl rfl) ?_
 refine VO.val rfl rfl (OpV.extract rfl rfl rfl) ?_
 refine VO.ma rfl rfl rfl rfl ?_
 refine VO.ma rfl rfl rfl rfl ?_
 refine VO.nil ?_
 refine VC.sr ?_
 refine VO.mv rfl rfl rfl rfl ?_
 refine VO.mv rfl rfl rfl rfl ?_
 refine VO.op rfl (OpE.call rfl hB rfl Tryz.call35 rfl (SpecN.spec (inspect_Rows hs (by omega) (fun h0 => names_few hak h0))) ?_)
 rintro _ rfl
 refine VO.le _ (Le.recast (t := 49) (y := .tup [avL rw_, avI (leastE a least)]) rfl (fun w Z u h => by rw [← hrw]; exact h)) ?_
 refine VO.mv rfl rfl rfl rfl ?_
 refine VO.val rfl rfl (OpV.extract rfl rfl rfl) ?_
 refine VO.val rfl rfl (OpV.extract rfl rfl rfl) ?_
 refine VO.ma rfl rfl rfl rfl ?_
 refine VO.ma rfl rfl rfl rfl ?_
 refine VO.nil ?_
 refine VC.sr ?_
 refine VO.mv rfl rfl rfl rfl ?_
 refine VO.op rfl (OpE.call rfl hB rfl Tryz.call36 rfl (SpecN.spec (rf_LooksFault hs)) ?_)
 rintro _ rfl
 refine VO.ma rfl rfl rfl rfl ?_
 refine VO.nil ?_
 refine VC.sr ?_
 refine VO.mv rfl rfl rfl rfl ?_
 refine VO.mv rfl rfl rfl rfl ?_
 refine VO.op rfl (OpE.call rfl hB rfl Tryz.call38 rfl (SpecN.spec (rf_LeastFault)) ?_)
 rintro _ rfl
 refine VO.op rfl (OpE.buildSlice (zc := #[.int .i64 0, .int .i64 0]) rfl hB rfl Tryz.underlying173 Tryz.sizeOf36 Tryz.zeroValue36 (by decide) (by decide) (by kernel_rfl) rfl rfl ?_)
 refine VO.le _ (Le.lits (t := 57) (xs := [lookF a, if outR least 1 5000 = true then 1 else 0]) rfl rfl) ?_
 refine VO.op rfl (OpE.call rfl hB rfl Tryz.call37 rfl (SpecN.spec (rl_errsL (by simp))) ?_)
 rintro _ rfl
 refine VO.le _ (Le.recast (t := 58) (y := avI (leastE a least)) rfl (fun w Z u h => by rw [← jud_e1]; exact h)) ?_
 refine VO.ma rfl rfl rfl rfl ?_
 refine VO.nil ?_
 refine VC.sr ?_
 refine VO.ma rfl rfl rfl rfl ?_
 refine VO.ma rfl rfl rfl rfl ?_
 refine VO.nil ?_
 refine VC.sr ?_
 refine VO.ma rfl rfl rfl rfl ?_
 refine VO.ma rfl rfl rfl rfl ?_
 refine VO.nil ?_
 refine VC.seq ?_
 refine VC.sr ?_
 refine VO.mv rfl rfl rfl rfl ?_
 refine VO.val rfl rfl (OpV.eql rfl rfl rfl) ?_
 refine VO.nil ?_
 refine VC.cond rfl (fun k0b => ?_) (fun k0b => ?_)
 ·have k0 := k0b
  try simp only [qqT, qqF, qqN, qqM, qqL, qqE] at k0
  refine VC.region ?_
  refine VO.mv rfl rfl rfl rfl ?_
  refine VO.op rfl (OpE.call rfl hB rfl Tryz.call39 rfl (SpecN.spec (rf_EscapesOf hs.len)) ?_)
  rintro _ rfl
  refine VO.le _ (Le.recast (t := 62) (y := avL ex) rfl (fun w Z u h => by rw [← hex, if_pos k0]; exact h)) ?_
  refine VO.mv rfl rfl rfl rfl ?_
  refine VO.op rfl (OpE.call rfl hB rfl Tryz.call40 rfl (SpecN.spec (rf_GoodBoardsOf hs)) ?_)
  rintro _ rfl
  refine VO.le _ (Le.recast (t := 64) (y := avStrs gd) rfl (fun w Z u h => by rw [← hgd, if_pos k0]; exact h)) ?_
  refine VO.ma rfl rfl rfl rfl ?_
  refine VO.ma rfl rfl rfl rfl ?_
  refine VO.nil ?_
  refine VC.seq ?_
  refine VC.sr ?_
  refine VO.mv rfl rfl rfl rfl ?_
  refine VO.val rfl rfl (OpV.eql rfl rfl rfl) ?_
  refine VO.nil ?_
  refine VC.cond rfl (fun k1b => ?_) (fun k1b => ?_)
  ·have k1 := k1b
   try simp only [qqT, qqF, qqN, qqM, qqL, qqE] at k1
   refine VC.region ?_
   refine VO.mv rfl rfl rfl rfl ?_
   refine VO.mv rfl rfl rfl rfl ?_
   refine VO.op rfl (OpE.call rfl hB rfl Tryz.call41 rfl (SpecN.spec (rf_PositionsOf hs)) ?_)
   rintro _ rfl
   refine VO.le _ (Le.recast (t := 69) (y := avStrs ps) rfl (fun w Z u h => by rw [← hps, if_pos k1]; exact h)) ?_
   refine VO.mv rfl rfl rfl rfl ?_
   refine VO.mv rfl rfl rfl rfl ?_
   refine VO.op rfl (OpE.call rfl hB rfl Tryz.call42 rfl (SpecN.spec (rf_RowsOf hs (by omega) (leastE_zero k1).2.1)) ?_)
   rintro _ rfl
   refine VO.le _ (Le.recast (t := 72) (y := avL rw_) rfl (fun w Z u h => by rw [← hrw, if_pos k1]; exact h)) ?_
   refine VO.ma rfl rfl rfl rfl ?_
   refine VO.ma rfl rfl rfl rfl ?_
   refine VO.nil ?_
   refine VC.sr ?_
   refine VO.mv rfl rfl rfl rfl ?_
   refine VO.mv rfl rfl rfl rfl ?_
   refine VO.val rfl rfl (OpV.eql rfl rfl rfl) ?_
   refine VO.le _ (Le.boolT (t := 75) rfl (decide_eq_true rfl)) ?_
   refine VO.mv rfl rfl rfl rfl ?_
   refine VO.opY rfl rfl rfl rfl rfl ?_
   refine OpE.val (W := NoB) (OpV.move (.inl rfl) rfl) rfl ?_
   refine VO.opY rfl rfl rfl rfl rfl ?_
   refine OpE.val (W := NoB) (OpV.move (.inl rfl) rfl) rfl ?_
   refine VO.opY rfl rfl rfl rfl rfl ?_
   refine OpE.call rfl hB rfl Tryz.call43 rfl (SpecN.spec (slices_Equal_pair (by omega) (by omega))) ?_
   rintro _ rfl
   refine VO.le _ (Le.boolT (t := 79) rfl (eqLs_self eqPr_self _)) ?_
   refine VO.val rfl rfl (OpV.pickT rfl rfl rfl rfl rfl) ?_
   refine VO.mv rfl rfl rfl rfl ?_
   refine VO.opY rfl rfl rfl rfl rfl ?_
   refine OpE.val (W := NoB) (OpV.move (.inl rfl) rfl) rfl ?_
   refine VO.opY rfl rfl rfl rfl rfl ?_
   refine OpE.val (W := NoB) (OpV.move (.inl rfl) rfl) rfl ?_
   refine VO.opY rfl rfl rfl rfl rfl ?_
   refine OpE.val (W := NoB) (OpV.eql rfl rfl rfl) rfl ?_
   refine VO.le _ (Le.boolT (t := 84) rfl (decide_eq_true rfl)) ?_
   refine VO.val rfl rfl (OpV.pickT rfl rfl rfl rfl rfl) ?_
   refine VO.mv rfl rfl rfl rfl ?_
   refine VO.opY rfl rfl rfl rfl rfl ?_
   refine OpE.val (W := NoB) (OpV.move (.inl rfl) rfl) rfl ?_
   refine VO.opY rfl rfl rfl rfl rfl ?_
   refine OpE.val (W := NoB) (OpV.move (.inl rfl) rfl) rfl ?_
   refine VO.opY rfl rfl rfl rfl rfl ?_
   refine OpE.call rfl hB rfl Tryz.call29 rfl (SpecN.spec (slices_Equal_str (by omega) (by omega))) ?_
   rintro _ rfl
   refine VO.le _ (Le.boolT (t := 89) rfl (eqLs_self sEq_refl _)) ?_
   refine VO.val rfl rfl (OpV.pickT rfl rfl rfl rfl rfl) ?_
   refine VO.mv rfl rfl rfl rfl ?_
   refine VO.opY rfl rfl rfl rfl rfl ?_
   refine OpE.val (W := NoB) (OpV.move (.inl rfl) rfl) rfl ?_
   refine VO.opY rfl rfl rfl rfl rfl ?_
   refine OpE.val (W := NoB) (OpV.move (.inl rfl) rfl) rfl ?_
   refine VO.opY rfl rfl rfl rfl rfl ?_
   refine OpE.val (W := NoB) (OpV.eql rfl rfl rfl) rfl ?_
   refine VO.le _ (Le.boolT (t := 94) rfl (decide_eq_true rfl)) ?_
   refine VO.val rfl rfl (OpV.pickT rfl rfl rfl rfl rfl) ?_
   refine VO.mv rfl rfl rfl rfl ?_
   refine VO.opY rfl rfl rfl rfl rfl ?_
   refine OpE.val (W := NoB) (OpV.move (.inl rfl) rfl) rfl ?_
   refine VO.opY rfl rfl rfl rfl rfl ?_
   refine OpE.val (W := NoB) (OpV.move (.inl rfl) rfl) rfl ?_
   refine VO.opY rfl rfl rfl rfl rfl ?_
   refine OpE.call rfl hB rfl Tryz.call29 rfl (SpecN.spec (slices_Equal_str (by omega) (by omega))) ?_
   rintro _ rfl
   refine VO.le _ (Le.boolT (t := 99) rfl (eqLs_self sEq_refl _)) ?_
   refine VO.val rfl rfl (OpV.pickT rfl rfl rfl rfl rfl) ?_
   refine VO.mv rfl rfl rfl rfl ?_
   refine VO.opY rfl rfl rfl rfl rfl ?_
   refine OpE.val (W := NoB) (OpV.move (.inl rfl) rfl) rfl ?_
   refine VO.opY rfl rfl rfl rfl rfl ?_
   refine OpE.val (W := NoB) (OpV.move (.inl rfl) rfl) rfl ?_
   refine VO.opY rfl rfl rfl rfl rfl ?_
   refine OpE.val (W := NoB) (OpV.eql rfl rfl rfl) rfl ?_
   refine VO.le _ (Le.boolT (t := 104) rfl (decide_eq_true rfl)) ?_
   refine VO.val rfl rfl (OpV.pickT rfl rfl rfl rfl rfl) ?_
   refine VO.mv rfl rfl rfl rfl ?_
   refine VO.opY rfl rfl rfl rfl rfl ?_
   refine OpE.val (W := NoB) (OpV.move (.inl rfl) rfl) rfl ?_
   refine VO.opY rfl rfl rfl rfl rfl ?_
   refine OpE.val (W := NoB) (OpV.move (.inl rfl) rfl) rfl ?_
   refine VO.opY rfl rfl rfl rfl rfl ?_
   refine OpE.call rfl hB rfl Tryz.call43 rfl (SpecN.spec (slices_Equal_pair (by omega) (by omega))) ?_
   rintro _ rfl
   refine VO.le _ (Le.boolT (t := 109) rfl (eqLs_self eqPr_self _)) ?_
   refine VO.val rfl rfl (OpV.pickT rfl rfl rfl rfl rfl) ?_
   refine VO.mv rfl rfl rfl rfl ?_
   refine VO.opY rfl rfl rfl rfl rfl ?_
   refine OpE.call rfl hB rfl Tryz.call44 rfl (SpecN.spec (rl_looked)) ?_
   rintro _ rfl
   refine VO.val rfl rfl (OpV.pickT rfl rfl rfl rfl rfl) ?_
   refine VO.ma rfl rfl rfl rfl ?_
   refine VO.nil ?_
   refine VC.ret ?_
   exact And.intro rfl rfl
  ·have k1 := k1b
   try simp only [qqT, qqF, qqN, qqM, qqL, qqE] at k1
   refine VC.le _ (Le.recast (t := 19) (y := avStrs ps) rfl (fun w Z u h => by rw [← hps, if_neg k1, h.eq_v]; exact .nil _ _)) ?_
   refine VC.le _ (Le.recast (t := 17) (y := avL rw_) rfl (fun w Z u h => by rw [← hrw, if_neg k1, h.eq_v]; exact .nil _ _)) ?_
   refine VC.skip ?_
   refine VC.sr ?_
   refine VO.mv rfl rfl rfl rfl ?_
   refine VO.mv rfl rfl rfl rfl ?_
   refine VO.val rfl rfl (OpV.eql rfl rfl rfl) ?_
   refine VO.le _ (Le.boolT (t := 75) rfl (decide_eq_true rfl)) ?_
   refine VO.mv rfl rfl rfl rfl ?_
   refine VO.opY rfl rfl rfl rfl rfl ?_
   refine OpE.val (W := NoB) (OpV.move (.inl rfl) rfl) rfl ?_
   refine VO.opY rfl rfl rfl rfl rfl ?_
   refine OpE.val (W := NoB) (OpV.move (.inl rfl) rfl) rfl ?_
   refine VO.opY rfl rfl rfl rfl rfl ?_
   refine OpE.call rfl hB rfl Tryz.call43 rfl (SpecN.spec (slices_Equal_pair (by omega) (by omega))) ?_
   rintro _ rfl
   refine VO.le _ (Le.boolT (t := 79) rfl (eqLs_self eqPr_self _)) ?_
   refine VO.val rfl rfl (OpV.pickT rfl rfl rfl rfl rfl) ?_
   refine VO.mv rfl rfl rfl rfl ?_
   refine VO.opY rfl rfl rfl rfl rfl ?_
   refine OpE.val (W := NoB) (OpV.move (.inl rfl) rfl) rfl ?_
   refine VO.opY rfl rfl rfl rfl rfl ?_
   refine OpE.val (W := NoB) (OpV.move (.inl rfl) rfl) rfl ?_
   refine VO.opY rfl rfl rfl rfl rfl ?_
   refine OpE.val (W := NoB) (OpV.eql rfl rfl rfl) rfl ?_
   refine VO.le _ (Le.boolT (t := 84) rfl (decide_eq_true rfl)) ?_
   refine VO.val rfl rfl (OpV.pickT rfl rfl rfl rfl rfl) ?_
   refine VO.mv rfl rfl rfl rfl ?_
   refine VO.opY rfl rfl rfl rfl rfl ?_
   refine OpE.val (W := NoB) (OpV.move (.inl rfl) rfl) rfl ?_
   refine VO.opY rfl rfl rfl rfl rfl ?_
   refine OpE.val (W := NoB) (OpV.move (.inl rfl) rfl) rfl ?_
   refine VO.opY rfl rfl rfl rfl rfl ?_
   refine OpE.call rfl hB rfl Tryz.call29 rfl (SpecN.spec (slices_Equal_str (by omega) (by omega))) ?_
   rintro _ rfl
   refine VO.le _ (Le.boolT (t := 89) rfl (eqLs_self sEq_refl _)) ?_
   refine VO.val rfl rfl (OpV.pickT rfl rfl rfl rfl rfl) ?_
   refine VO.mv rfl rfl rfl rfl ?_
   refine VO.opY rfl rfl rfl rfl rfl ?_
   refine OpE.val (W := NoB) (OpV.move (.inl rfl) rfl) rfl ?_
   refine VO.opY rfl rfl rfl rfl rfl ?_
   refine OpE.val (W := NoB) (OpV.move (.inl rfl) rfl) rfl ?_
   refine VO.opY rfl rfl rfl rfl rfl ?_
   refine OpE.val (W := NoB) (OpV.eql rfl rfl rfl) rfl ?_
   refine VO.le _ (Le.boolT (t := 94) rfl (decide_eq_true rfl)) ?_
   refine VO.val rfl rfl (OpV.pickT rfl rfl rfl rfl rfl) ?_
   refine VO.mv rfl rfl rfl rfl ?_
   refine VO.opY rfl rfl rfl rfl rfl ?_
   refine OpE.val (W := NoB) (OpV.move (.inl rfl) rfl) rfl ?_
   refine VO.opY rfl rfl rfl rfl rfl ?_
   refine OpE.val (W := NoB) (OpV.move (.inl rfl) rfl) rfl ?_
   refine VO.opY rfl rfl rfl rfl rfl ?_
   refine OpE.call rfl hB rfl Tryz.call29 rfl (SpecN.spec (slices_Equal_str (by omega) (by omega))) ?_
   rintro _ rfl
   refine VO.le _ (Le.boolT (t := 99) rfl (eqLs_self sEq_refl _)) ?_
   refine VO.val rfl rfl (OpV.pickT rfl rfl rfl rfl rfl) ?_
   refine VO.mv rfl rfl rfl rfl ?_
   refine VO.opY rfl rfl rfl rfl rfl ?_
   refine OpE.val (W := NoB) (OpV.move (.inl rfl) rfl) rfl ?_
   refine VO.opY rfl rfl rfl rfl rfl ?_
   refine OpE.val (W := NoB) (OpV.move (.inl rfl) rfl) rfl ?_
   refine VO.opY rfl rfl rfl rfl rfl ?_
   refine OpE.val (W := NoB) (OpV.eql rfl rfl rfl) rfl ?_
   refine VO.le _ (Le.boolT (t := 104) rfl (decide_eq_true rfl)) ?_
   refine VO.val rfl rfl (OpV.pickT rfl rfl rfl rfl rfl) ?_
   refine VO.mv rfl rfl rfl rfl ?_
   refine VO.opY rfl rfl rfl rfl rfl ?_
   refine OpE.val (W := NoB) (OpV.move (.inl rfl) rfl) rfl ?_
   refine VO.opY rfl rfl rfl rfl rfl ?_
   refine OpE.val (W := NoB) (OpV.move (.inl rfl) rfl) rfl ?_
   refine VO.opY rfl rfl rfl rfl rfl ?_
   refine OpE.call rfl hB rfl Tryz.call43 rfl (SpecN.spec (slices_Equal_pair (by omega) (by omega))) ?_
   rintro _ rfl
   refine VO.le _ (Le.boolT (t := 109) rfl (eqLs_self eqPr_self _)) ?_
   refine VO.val rfl rfl (OpV.pickT rfl rfl rfl rfl rfl) ?_
   refine VO.mv rfl rfl rfl rfl ?_
   refine VO.opY rfl rfl rfl rfl rfl ?_
   refine OpE.call rfl hB rfl Tryz.call44 rfl (SpecN.spec (rl_looked)) ?_
   rintro _ rfl
   refine VO.val rfl rfl (OpV.pickT rfl rfl rfl rfl rfl) ?_
   refine VO.ma rfl rfl rfl rfl ?_
   refine VO.nil ?_
   refine VC.ret ?_
   exact And.intro rfl rfl
 ·have k0 := k0b
  try simp only [qqT, qqF, qqN, qqM, qqL, qqE] at k0
  refine VC.le _ (Le.recast (t := 16) (y := avL ex) rfl (fun w Z u h => by rw [← hex, if_neg k0, h.eq_v]; exact .nil _ _)) ?_
  refine VC.le _ (Le.recast (t := 18) (y := avStrs gd) rfl (fun w Z u h => by rw [← hgd, if_neg k0, h.eq_v]; exact .nil _ _)) ?_
  refine VC.skip ?_
  refine VC.seq ?_
  refine VC.sr ?_
  refine VO.mv rfl rfl rfl rfl ?_
  refine VO.val rfl rfl (OpV.eql rfl rfl rfl) ?_
  refine VO.nil ?_
  refine VC.cond rfl (fun k1b => ?_) (fun k1b => ?_)
  ·have k1 := k1b
   try simp only [qqT, qqF, qqN, qqM, qqL, qqE] at k1
   exact VC.absurd (k0 (leastE_zero k1).1)
  ·have k1 := k1b
   try simp only [qqT, qqF, qqN, qqM, qqL, qqE] at k1
   refine VC.le _ (Le.recast (t := 19) (y := avStrs ps) rfl (fun w Z u h => by rw [← hps, if_neg k1, h.eq_v]; exact .nil _ _)) ?_
   refine VC.le _ (Le.recast (t := 17) (y := avL rw_) rfl (fun w Z u h => by rw [← hrw, if_neg k1, h.eq_v]; exact .nil _ _)) ?_
   refine VC.skip ?_
   refine VC.sr ?_
   refine VO.mv rfl rfl rfl rfl ?_
   refine VO.mv rfl rfl rfl rfl ?_
   refine VO.val rfl rfl (OpV.eql rfl rfl rfl) ?_
   refine VO.le _ (Le.boolT (t := 75) rfl (decide_eq_true rfl)) ?_
   refine VO.mv rfl rfl rfl rfl ?_
   refine VO.opY rfl rfl rfl rfl rfl ?_
   refine OpE.val (W := NoB) (OpV.move (.inl rfl) rfl) rfl ?_
   refine VO.opY rfl rfl rfl rfl rfl ?_
   refine OpE.val (W := NoB) (OpV.move (.inl rfl) rfl) rfl ?_
   refine VO.opY rfl rfl rfl rfl rfl ?_
   refine OpE.call rfl hB rfl Tryz.call43 rfl (SpecN.spec (slices_Equal_pair (by omega) (by omega))) ?_
   rintro _ rfl
   refine VO.le _ (Le.boolT (t := 79) rfl (eqLs_self eqPr_self _)) ?_
   refine VO.val rfl rfl (OpV.pickT rfl rfl rfl rfl rfl) ?_
   refine VO.mv rfl rfl rfl rfl ?_
   refine VO.opY rfl rfl rfl rfl rfl ?_
   refine OpE.val (W := NoB) (OpV.move (.inl rfl) rfl) rfl ?_
   refine VO.opY rfl rfl rfl rfl rfl ?_
   refine OpE.val (W := NoB) (OpV.move (.inl rfl) rfl) rfl ?_
   refine VO.opY rfl rfl rfl rfl rfl ?_
   refine OpE.val (W := NoB) (OpV.eql rfl rfl rfl) rfl ?_
   refine VO.le _ (Le.boolT (t := 84) rfl (decide_eq_true rfl)) ?_
   refine VO.val rfl rfl (OpV.pickT rfl rfl rfl rfl rfl) ?_
   refine VO.mv rfl rfl rfl rfl ?_
   refine VO.opY rfl rfl rfl rfl rfl ?_
   refine OpE.val (W := NoB) (OpV.move (.inl rfl) rfl) rfl ?_
   refine VO.opY rfl rfl rfl rfl rfl ?_
   refine OpE.val (W := NoB) (OpV.move (.inl rfl) rfl) rfl ?_
   refine VO.opY rfl rfl rfl rfl rfl ?_
   refine OpE.call rfl hB rfl Tryz.call29 rfl (SpecN.spec (slices_Equal_str (by omega) (by omega))) ?_
   rintro _ rfl
   refine VO.le _ (Le.boolT (t := 89) rfl (eqLs_self sEq_refl _)) ?_
   refine VO.val rfl rfl (OpV.pickT rfl rfl rfl rfl rfl) ?_
   refine VO.mv rfl rfl rfl rfl ?_
   refine VO.opY rfl rfl rfl rfl rfl ?_
   refine OpE.val (W := NoB) (OpV.move (.inl rfl) rfl) rfl ?_
   refine VO.opY rfl rfl rfl rfl rfl ?_
   refine OpE.val (W := NoB) (OpV.move (.inl rfl) rfl) rfl ?_
   refine VO.opY rfl rfl rfl rfl rfl ?_
   refine OpE.val (W := NoB) (OpV.eql rfl rfl rfl) rfl ?_
   refine VO.le _ (Le.boolT (t := 94) rfl (decide_eq_true rfl)) ?_
   refine VO.val rfl rfl (OpV.pickT rfl rfl rfl rfl rfl) ?_
   refine VO.mv rfl rfl rfl rfl ?_
   refine VO.opY rfl rfl rfl rfl rfl ?_
   refine OpE.val (W := NoB) (OpV.move (.inl rfl) rfl) rfl ?_
   refine VO.opY rfl rfl rfl rfl rfl ?_
   refine OpE.val (W := NoB) (OpV.move (.inl rfl) rfl) rfl ?_
   refine VO.opY rfl rfl rfl rfl rfl ?_
   refine OpE.call rfl hB rfl Tryz.call29 rfl (SpecN.spec (slices_Equal_str (by omega) (by omega))) ?_
   rintro _ rfl
   refine VO.le _ (Le.boolT (t := 99) rfl (eqLs_self sEq_refl _)) ?_
   refine VO.val rfl rfl (OpV.pickT rfl rfl rfl rfl rfl) ?_
   refine VO.mv rfl rfl rfl rfl ?_
   refine VO.opY rfl rfl rfl rfl rfl ?_
   refine OpE.val (W := NoB) (OpV.move (.inl rfl) rfl) rfl ?_
   refine VO.opY rfl rfl rfl rfl rfl ?_
   refine OpE.val (W := NoB) (OpV.move (.inl rfl) rfl) rfl ?_
   refine VO.opY rfl rfl rfl rfl rfl ?_
   refine OpE.val (W := NoB) (OpV.eql rfl rfl rfl) rfl ?_
   refine VO.le _ (Le.boolT (t := 104) rfl (decide_eq_true rfl)) ?_
   refine VO.val rfl rfl (OpV.pickT rfl rfl rfl rfl rfl) ?_
   refine VO.mv rfl rfl rfl rfl ?_
   refine VO.opY rfl rfl rfl rfl rfl ?_
   refine OpE.val (W := NoB) (OpV.move (.inl rfl) rfl) rfl ?_
   refine VO.opY rfl rfl rfl rfl rfl ?_
   refine OpE.val (W := NoB) (OpV.move (.inl rfl) rfl) rfl ?_
   refine VO.opY rfl rfl rfl rfl rfl ?_
   refine OpE.call rfl hB rfl Tryz.call43 rfl (SpecN.spec (slices_Equal_pair (by omega) (by omega))) ?_
   rintro _ rfl
   refine VO.le _ (Le.boolT (t := 109) rfl (eqLs_self eqPr_self _)) ?_
   refine VO.val rfl rfl (OpV.pickT rfl rfl rfl rfl rfl) ?_
   refine VO.mv rfl rfl rfl rfl ?_
   refine VO.opY rfl rfl rfl rfl rfl ?_
   refine OpE.call rfl hB rfl Tryz.call44 rfl (SpecN.spec (rl_looked)) ?_
   rintro _ rfl
   refine VO.val rfl rfl (OpV.pickT rfl rfl rfl rfl rfl) ?_
   refine VO.ma rfl rfl rfl rfl ?_
   refine VO.nil ?_
   refine VC.ret ?_
   exact And.intro rfl rfl
end Go.Proofs.YtdnlhdilpdeecaaGreatDoor
