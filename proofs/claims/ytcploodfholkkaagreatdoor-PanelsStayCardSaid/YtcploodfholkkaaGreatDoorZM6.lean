/- Part 6 of a proof: the walks and laws that it needs. -/
import Derived.Test.YtcploodfholkkaaGreatDoorProg
import Derived.Shelf.Abstract
import Derived.Deep.QuietTactic
import Derived.BigQuiet
import Derived.BigRegion
import Derived.Deep.RegionLaw
import Derived.Deep.LoopGhost
import Derived.Deep.DeepCutAuto
import Derived.Below
import Derived.Test.YtcploodfholkkaaGreatDoorZM5
set_option linter.unusedVariables false
set_option linter.unusedSimpArgs false
namespace Go.Proofs.YtcploodfholkkaaGreatDoor
open Go.RowKit
set_option maxRecDepth 100000
section
abbrev boxSch (g : Nat) (o : List OrdrS) (b1 : Option Addr) (q c1 : Nat) (b2 : Option Addr) (c2 : Nat) (ty : TypeId) : Ent := .box g ⟨[avL o, .v (.slice b1 q c1), .v (.slice b2 q c2)], ty, 3⟩
set_option maxHeartbeats 8000000 in
theorem plan_newScheduler {p : List PaceS} {o : List OrdrS} {each : Int} (hp : SmPc p) (hpok : PacesOk p) (hook : OrdrsB o) (hhas : ∀ j, j < o.length → hasP p (o.getD j default).product = true) (he : 0 ≤ each ∧ each ≤ 10000000) :
  Spec Tryz.prog 105 [avL p, avL o, avI each] (fun y => y = .at_ 3 (schC p o each)) := by
 refine Spec.of_VC Tryz.func105 rfl Tryz.ntmps105 (Nle rfl) fun w A hB => ?_
 have hnew : True := trivial
 refine VC.seq ?_
 have hl := hp.len
 have hl2 := hook.len
 refine VC.region ?_
 refine VO.mb ?_
 refine VO.nil ?_
 refine VC.sr ?_
 refine VO.mw ?_
 refine VO.vv (OpV.build (pls := #[(0, 1), (1, 1), (2, 1)]) rfl Tryz.zeroValue292 Tryz.underlying292 (fun w => by kernel_rfl) rfl rfl) ?_
 refine VO.op rfl (OpE.box rfl hB rfl rfl rfl ?_)
 intro g19
 refine VO.mb ?_
 refine VO.nil ?_
 refine VC.seq ?_
 refine VC.seq ?_
 refine VC.le _ (Le.nilRow 1 3) ?_
 refine VC.le _ (Le.nilRow 1 22) ?_
 refine VC.region ?_
 refine VO.mw ?_
 refine VO.vv (OpV.len_im rfl Tryz.underlying93 rfl) ?_
 refine VO.mw ?_
 refine VO.nil ?_
 refine VC.block ?_
 refine VC.loopK [(0, _), (1, _), (2, _), (7, _), (20, _), (21, _)] ⟨rfl, rfl, rfl, rfl, rfl, rfl, trivial⟩ ({z : (Option Addr × Nat) × (Option Addr × Nat) × Nat // z.2.2 ≤ o.length}) (fun (iZ : {z : (Option Addr × Nat) × (Option Addr × Nat) × Nat // z.2.2 ≤ o.length}) => match iZ with | ⟨⟨⟨b1, c1⟩, ⟨b2, c2⟩, q⟩, hq⟩ => [(22, avI (q : Int))]) (fun (iZ : {z : (Option Addr × Nat) × (Option Addr × Nat) × Nat // z.2.2 ≤ o.length}) => match iZ with | ⟨⟨⟨b1, c1⟩, ⟨b2, c2⟩, q⟩, hq⟩ => [boxSch g19 o b1 q c1 b2 c2 292, .row (.slice b1 q c1) q 1 (intsL ((o.take q).map (longO p))) 3, .row (.slice b2 q c2) q 1 (listM ((o.take q).map fun x => o.map (turnO p each x))) 22]) (fun (iZ : {z : (Option Addr × Nat) × (Option Addr × Nat) × Nat // z.2.2 ≤ o.length}) => match iZ with | ⟨⟨⟨b1, c1⟩, ⟨b2, c2⟩, q⟩, hq⟩ => 0) (fun (iZ : {z : (Option Addr × Nat) × (Option Addr × Nat) × Nat // z.2.2 ≤ o.length}) => match iZ with | ⟨⟨⟨b1, c1⟩, ⟨b2, c2⟩, q⟩, hq⟩ => o.length - q) ⟨((none, 0), (none, 0), 0), Nat.zero_le _⟩ (Le.mk hB [0, 1, 2] ⟨rfl, rfl, rfl, rfl, rfl, rfl, rfl, trivial⟩ rfl rfl (Nat.le_refl _)) ?_
 rintro ⟨⟨⟨b1, c1⟩, ⟨b2, c2⟩, q⟩, hq⟩
 show VC _ _ _ _ ⟨[(22, avI (q : Int))] ++ [(0, _), (1, _), (2, _), (7, _), (20, _), (21, _)], [boxSch g19 o b1 q c1 b2 c2 292, .row (.slice b1 q c1) q 1 (intsL ((o.take q).map (longO p))) 3, .row (.slice b2 q c2) q 1 (listM ((o.take q).map fun x => o.map (turnO p each x))) 22], 0⟩
 simp only at hq
 refine VC.sr ?_
 refine VO.vv (OpV.lss rfl rfl rfl) ?_
 refine VO.nil ?_
 refine VC.seq ?_
 refine VC.cond rfl (fun aH1b => ?_) (fun aH1b => ?_)
 ·have aH1 := aH1b
  try simp only [qq] at aH1
  refine VC.skip ?_
  refine VC.seq ?_
  refine VC.block ?_
  refine VC.sr ?_
  refine VO.vv (OpV.indexAddr_E rfl Tryz.underlying93 Tryz.sizeOf110 rfl rfl rfl (by omega)) ?_
  refine VO.vv (OpV.loadK_at rfl hB OutW.no Tryz.isAgg110 Tryz.sizeOf110 rfl rfl) ?_
  refine VO.op rfl (OpE.alloc rfl hB rfl Tryz.zeroValue110 rfl ?_)
  intro g9
  refine VO.op rfl (OpE.store (i := 3) rfl hB rfl Tryz.sizeOf110 rfl rfl rfl rfl rfl rfl (Nle rfl) trivial ?_)
  refine VO.nil ?_
  refine VC.seq ?_
  have hoq := hook.all q (by omega)
  have hpq := paceO_ok hpok (hhas q (by omega))
  have hlq := mul_bd (by omega : 0 ≤ (paceO p (o.getD q default).product).cycle) hpq.1.2 (by omega : 0 ≤ (o.getD q default).count) hoq.1.2
  refine VC.region ?_
  refine VO.mw ?_
  refine VO.vv (OpV.fieldAddrO 1 rfl Tryz.underlying110 rfl rfl Tryz.sizeOf9 rfl) ?_
  refine VO.vv (OpV.load_own (i := 3) rfl hB Tryz.isAgg9 rfl rfl rfl (fun h => h)) ?_
  refine VO.op rfl (OpE.call rfl hB rfl Tryz.call122 rfl (plan_paceOf (k := (o.getD q default).product) (by omega) (pace_rise hpok)) ?_)
  rintro _ rfl
  refine VO.mw ?_
  refine VO.vv (OpV.extract rfl rfl rfl) ?_
  refine VO.vv (OpV.extract rfl rfl rfl) ?_
  refine VO.op rfl (OpE.alloc rfl hB rfl Tryz.zeroValue115 rfl ?_)
  intro g10
  refine VO.op rfl (OpE.store (i := 4) rfl hB rfl Tryz.sizeOf115 rfl rfl rfl rfl rfl rfl (Nle rfl) trivial ?_)
  refine VO.mb ?_
  refine VO.nil ?_
  refine VC.seq ?_
  refine VC.draw (fun j b => (j = 14 ∧ b = g19) ∨ (j = 11 ∧ (b ≠ g10 ∧ b ≠ g9))) hB (by kernel_rfl) ?_
  refine VA.tk (i := 0) rfl (OpV.move (.inl rfl) rfl) ?_
  refine VA.tk (i := 1) rfl (OpV.move (.inl rfl) rfl) ?_
  refine VA.tk (i := 2) rfl (OpV.nilCheck rfl rfl) ?_
  refine VA.tk (i := 3) rfl (OpV.fieldAddrO 1 rfl Tryz.underlying292 rfl rfl Tryz.sizeOf22 rfl) ?_
  refine VA.tk (i := 4) rfl (OpV.load_own (i := 0) rfl hB Tryz.isAgg22 rfl rfl rfl (Wi.not2 (by kernel_rfl) (by kernel_rfl))) ?_
  refine VA.tk (i := 5) rfl (OpV.fieldAddrO 1 rfl Tryz.underlying115 rfl rfl Tryz.sizeOf3 rfl) ?_
  refine VA.tk (i := 6) rfl (OpV.load_own (i := 4) rfl hB Tryz.isAgg3 rfl rfl rfl (Wi.notN2 (by kernel_rfl) (fun h => h.1 rfl))) ?_
  refine VA.tk (i := 7) rfl (OpV.fieldAddrO 2 rfl Tryz.underlying110 rfl rfl Tryz.sizeOf3 rfl) ?_
  refine VA.tk (i := 8) rfl (OpV.load_own (i := 3) rfl hB Tryz.isAgg3 rfl rfl rfl (Wi.notN2 (by kernel_rfl) (fun h => h.2 rfl))) ?_
  refine VA.tk (i := 9) rfl (OpV.mul rfl rfl rfl (by unfold fits; omega)) ?_
  refine VA.all (rs := [10]) (by kernel_rfl) (by decide) ?_
  refine ⟨⟨_, rfl, .inl rfl, ?_⟩, trivial⟩
  refine bI rfl hB rfl (by decide) rfl rfl ?_
  refine VA.all (rs := [11]) (by kernel_rfl) (by decide) ?_
  refine ⟨⟨_, rfl, .inl rfl, ?_⟩, trivial⟩
  refine OpE.hap (fun hap => ?_)
  refine OpE.append1S (i := 1) rfl hB rfl Tryz.underlying22 (infoOf Tryz.t3 1 (by kernel_rfl) rfl rfl) rfl (by decide) (by decide) rfl rfl rfl rfl (intsL_snoc _ _) (by omega) (fun g' hg => .inr ⟨rfl, apart_ne hap (i := 1) (j := 4) hg rfl (by decide), apart_ne hap (i := 1) (j := 3) hg rfl (by decide)⟩) ?_
  intro b44 c44
  refine VA.tk (i := 12) rfl (OpV.nilCheck rfl rfl) ?_
  refine VA.tk (i := 13) rfl (OpV.fieldAddrO 1 rfl Tryz.underlying292 rfl rfl Tryz.sizeOf22 rfl) ?_
  refine VA.all (rs := [14]) (by kernel_rfl) (by decide) ?_
  refine ⟨⟨_, rfl, .inl rfl, ?_⟩, trivial⟩
  refine OpE.hap (fun hap => ?_)
  refine OpE.store (i := 0) rfl hB rfl Tryz.sizeOf22 rfl rfl rfl rfl rfl rfl (Nle rfl) (by first | exact .inl ⟨rfl, rfl⟩ | (refine ⟨by first | exact rfl | exact .inl rfl | exact .inr rfl, ?_⟩; repeat (first | (first | exact apart_ne hap (i := 4) (j := 0) rfl rfl (by decide) | exact apart_ne hap (i := 4) (j := 1) rfl rfl (by decide) | exact apart_ne hap (i := 4) (j := 2) rfl rfl (by decide) | exact apart_ne hap (i := 4) (j := 3) rfl rfl (by decide) | exact apart_ne hap (i := 3) (j := 0) rfl rfl (by decide) | exact apart_ne hap (i := 3) (j := 1) rfl rfl (by decide) | exact apart_ne hap (i := 3) (j := 2) rfl rfl (by decide) | exact apart_ne hap (i := 3) (j := 4) rfl rfl (by decide) | exact apart_ne hap (i := 2) (j := 0) rfl rfl (by decide) | exact apart_ne hap (i := 2) (j := 1) rfl rfl (by decide) | exact apart_ne hap (i := 2) (j := 3) rfl rfl (by decide) | exact apart_ne hap (i := 2) (j := 4) rfl rfl (by decide) | exact apart_ne hap (i := 1) (j := 0) rfl rfl (by decide) | exact apart_ne hap (i := 1) (j := 2) rfl rfl (by decide) | exact apart_ne hap (i := 1) (j := 3) rfl rfl (by decide) | exact apart_ne hap (i := 1) (j := 4) rfl rfl (by decide) | exact apart_ne hap (i := 0) (j := 1) rfl rfl (by decide) | exact apart_ne hap (i := 0) (j := 2) rfl rfl (by decide) | exact apart_ne hap (i := 0) (j := 3) rfl rfl (by decide) | exact apart_ne hap (i := 0) (j := 4) rfl rfl (by decide)) | refine And.intro ?_ ?_))) ?_
  refine VA.done (by kernel_rfl) ?_
  refine VC.sr ?_
  refine VO.mb ?_
  refine VO.nil ?_
  refine VC.seq ?_
  refine VC.sr ?_
  refine VO.mw ?_
  refine VO.vv (OpV.len_im rfl Tryz.underlying93 rfl) ?_
  refine VO.mw ?_
  refine VO.nil ?_
  refine VC.block ?_
  refine VC.le _ (Le.nilRow 1 3) ?_
  refine VC.loopK [(0, _), (1, _), (2, _), (7, _), (10, _), (20, _), (21, _), (22, _), (47, _), (48, _)] (by repeat first | refine ⟨rfl, ?_⟩ | trivial) ({z : Value × Nat // z.2 ≤ o.length}) (fun (iZ : {z : Value × Nat // z.2 ≤ o.length}) => match iZ with | ⟨⟨u, r⟩, hr⟩ => [(12, .v u), (49, avI (r : Int))]) (fun (iZ : {z : Value × Nat // z.2 ≤ o.length}) => match iZ with | ⟨⟨u, r⟩, hr⟩ => [.box g19 ⟨[avL o, .v (.slice b44 (q + 1) c44), .v (.slice b2 q c2)], 292, 3⟩, .row (.slice b44 (q + 1) c44) (q + 1) 1 (intsL ((o.take q).map (longO p) ++ [longO p (o.getD q default)])) 3, .row (.slice b2 q c2) q 1 (listM ((o.take q).map fun x => o.map (turnO p each x))) 22, boxPc g10 (paceO p (o.getD q default).product) 115, .row u r 1 (intsL ((o.take r).map (turnO p each (o.getD q default)))) 3]) (fun (iZ : {z : Value × Nat // z.2 ≤ o.length}) => match iZ with | ⟨⟨u, r⟩, hr⟩ => 0) (fun (iZ : {z : Value × Nat // z.2 ≤ o.length}) => match iZ with | ⟨⟨u, r⟩, hr⟩ => o.length - r) ⟨(.slice none 0 0, 0), Nat.zero_le _⟩ (Le.mk hB [0, 1, 2, 4, 5] (by repeat first | refine ⟨rfl, ?_⟩ | trivial) rfl rfl (Nat.le_refl _)) ?_
  rintro ⟨⟨u, r⟩, hr⟩
  show VC _ _ _ _ ⟨[(12, .v u), (49, avI (r : Int))] ++ [(0, _), (1, _), (2, _), (7, _), (10, _), (20, _), (21, _), (22, _), (47, _), (48, _)], [.box g19 ⟨[avL o, .v (.slice b44 (q + 1) c44), .v (.slice b2 q c2)], 292, 3⟩, .row (.slice b44 (q + 1) c44) (q + 1) 1 (intsL ((o.take q).map (longO p) ++ [longO p (o.getD q default)])) 3, .row (.slice b2 q c2) q 1 (listM ((o.take q).map fun x => o.map (turnO p each x))) 22, boxPc g10 (paceO p (o.getD q default).product) 115, .row u r 1 (intsL ((o.take r).map (turnO p each (o.getD q default)))) 3], 0⟩
  simp only at hr
  refine VC.sr ?_
  refine VO.vv (OpV.lss rfl rfl rfl) ?_
  refine VO.nil ?_
  refine VC.seq ?_
  refine VC.cond rfl (fun aH2b => ?_) (fun aH2b => ?_)
  ·have aH2 := aH2b
   try simp only [qq] at aH2
   refine VC.skip ?_
   refine VC.seq ?_
   refine VC.block ?_
   refine VC.sr ?_
   refine VO.vv (OpV.indexAddr_E rfl Tryz.underlying93 Tryz.sizeOf110 rfl rfl rfl (by omega)) ?_
   refine VO.vv (OpV.loadK_at rfl hB OutW.no Tryz.isAgg110 Tryz.sizeOf110 rfl rfl) ?_
   refine VO.op rfl (OpE.alloc rfl hB rfl Tryz.zeroValue110 rfl ?_)
   intro g14
   refine VO.op rfl (OpE.store (i := 5) rfl hB rfl Tryz.sizeOf110 rfl rfl rfl rfl rfl rfl (Nle rfl) trivial ?_)
   refine VO.nil ?_
   refine VC.sr ?_
   refine VO.mw ?_
   refine VO.vv (OpV.fieldAddrO 1 rfl Tryz.underlying110 rfl rfl Tryz.sizeOf9 rfl) ?_
   refine VO.vv (OpV.load_own (i := 5) rfl hB Tryz.isAgg9 rfl rfl rfl (fun h => h)) ?_
   refine VO.op rfl (OpE.call rfl hB rfl Tryz.call122 rfl (plan_paceOf (k := (o.getD r default).product) (by omega) (pace_rise hpok)) ?_)
   rintro _ rfl
   refine VO.mw ?_
   refine VO.vv (OpV.extract rfl rfl rfl) ?_
   refine VO.vv (OpV.extract rfl rfl rfl) ?_
   refine VO.op rfl (OpE.alloc rfl hB rfl Tryz.zeroValue115 rfl ?_)
   intro g15
   refine VO.op rfl (OpE.store (i := 6) rfl hB rfl Tryz.sizeOf115 rfl rfl rfl rfl rfl rfl (Nle rfl) trivial ?_)
   refine VO.mb ?_
   refine VO.nil ?_
   refine VC.region ?_
   refine VO.mw ?_
   refine VO.vv (OpV.loadK_own (i := 3) rfl hB Tryz.isAgg115 Tryz.sizeOf115 rfl rfl rfl (fun h => h)) ?_
   refine VO.vv (OpV.loadK_own (i := 6) rfl hB Tryz.isAgg115 Tryz.sizeOf115 rfl rfl rfl (fun h => h)) ?_
   refine VO.mw ?_
   refine VO.op rfl (OpE.call rfl hB rfl Tryz.call189 rfl (SpecN.spec (plan_changeover (a := paceO p (o.getD q default).product) (b := paceO p (o.getD r default).product) (paceO_sm hp _).1 (paceO_sm hp _).1 he)) ?_)
   rintro _ rfl
   refine VO.op rfl (bI rfl hB rfl (by decide) rfl rfl ?_)
   refine VO.op rfl (OpE.append1 (i := 4) rfl hB rfl Tryz.underlying22 (infoOf Tryz.t3 1 (by kernel_rfl) rfl rfl) rfl (by decide) (by decide) rfl rfl rfl rfl (intsL_snoc _ _) (by omega) (fun _ _ => trivial) ?_)
   intro u66
   refine VO.mb ?_
   refine VO.nil ?_
   refine VC.region ?_
   refine VO.vv (OpV.add rfl rfl rfl (by unfold fits; omega)) ?_
   refine VO.mw ?_
   refine VO.nil ?_
   exact Exists.intro (⟨(u66, r + 1), by show r + 1 ≤ _; omega⟩) (And.intro (Le.mk hB [0, 1, 2, 3, 4] (by repeat first | refine ⟨rfl, ?_⟩ | trivial) rfl (by dsimp only; rw [map_snoc (turnO p each (o.getD q default)) (show r < o.length by omega) default]; rfl) (Nat.le_refl _)) (by first | omega | (show _ < _; omega) | (simp only []; omega)))
  ·have aH2 := aH2b
   try simp only [qq] at aH2
   refine VC.exit ?_
   have hre : o.take r = o := List.take_of_length_le (by omega)
   have hro : r = o.length := by omega
   rw [hre]
   refine VC.le _ (Le.rowI (t := 12) (i := 4) hB hnew rfl rfl (by rw [List.length_map]; exact hro)) ?_
   refine VC.region ?_
   refine VO.mw ?_
   refine VO.mw ?_
   refine VO.vv (OpV.nilCheck rfl rfl) ?_
   refine VO.vv (OpV.fieldAddrO 2 rfl Tryz.underlying292 rfl rfl Tryz.sizeOf290 rfl) ?_
   refine VO.vv (OpV.load_own (i := 0) rfl hB Tryz.isAgg290 rfl rfl rfl (fun h => h)) ?_
   refine VO.mw ?_
   refine VO.op rfl (OpE.buildSlice (zc := #[.slice none 0 0]) rfl hB rfl Tryz.underlying290 Tryz.sizeOf22 Tryz.zeroValue22 (by decide) (by decide) (by kernel_rfl) rfl rfl ?_)
   refine VO.op rfl (OpE.append1S (i := 2) rfl hB rfl Tryz.underlying290 (infoOf Tryz.t22 1 (by kernel_rfl) rfl rfl) rfl (by decide) (by decide) rfl rfl rfl rfl (listM_snoc _ (o.map (turnO p each (o.getD q default)))) (by omega) (fun _ _ => trivial) ?_)
   intro b75 c75
   refine VO.vv (OpV.nilCheck rfl rfl) ?_
   refine VO.vv (OpV.fieldAddrO 2 rfl Tryz.underlying292 rfl rfl Tryz.sizeOf290 rfl) ?_
   refine VO.op rfl (OpE.store (i := 0) rfl hB rfl Tryz.sizeOf290 rfl rfl rfl rfl rfl rfl (Nle rfl) trivial ?_)
   refine VO.nil ?_
   refine VC.region ?_
   refine VO.vv (OpV.add rfl rfl rfl (by unfold fits; omega)) ?_
   refine VO.mw ?_
   refine VO.nil ?_
   exact Exists.intro (⟨((b44, c44), (b75, c75), q + 1), by show q + 1 ≤ _; omega⟩) (And.intro (Le.mk hB [0, 1, 2] ⟨rfl, rfl, rfl, rfl, rfl, rfl, rfl, trivial⟩ rfl (by dsimp only; rw [map_snoc (longO p) (show q < o.length by omega) default, map_snoc (fun x => o.map (turnO p each x)) (show q < o.length by omega) default]; rfl) (Nat.le_refl _)) (by first | omega | (show _ < _; omega) | (simp only []; omega)))
 ·have aH1 := aH1b
  try simp only [qq] at aH1
  refine VC.exit ?_
  refine VC.seq ?_
  have hqe : o.take q = o := List.take_of_length_le (by omega)
  have hqo : q = o.length := by omega
  rw [hqe]
  refine VC.le _ (Le.cellRow (i := 0) (k := 1) (j := 1) (y := avInts (o.map (longO p))) hB rfl rfl rfl (by omega) (fun w Z u h => Rep.ints (by rw [List.length_map]; exact hqo) h)) ?_
  refine VC.le _ (Le.cellRow (i := 0) (k := 1) (j := 2) (y := avM (o.map fun x => o.map (turnO p each x))) hB rfl rfl rfl (by omega) (fun w Z u h => Rep.listM (by rw [List.length_map]; exact hqo) h)) ?_
  refine VC.le _ (Le.freezeAt (t := 7) (i := 0) (m := 3) (f := schC p o each) rfl rfl (Nle rfl) (fun w Z u h => h.at_congr (g := schC p o each) (fun j hj => by rcases j with _ | _ | _ | j <;> first | rfl | omega)) hnew hB) ?_
  refine VC.region ?_
  refine VO.mw ?_
  refine VO.mb ?_
  refine VO.nil ?_
  refine VC.ret ?_
  exact Exists.intro _ (And.intro (RetV.one Tryz.results105 (ResV.tmp rfl)) (rfl))
theorem plan_scheduled {p : List PaceS} {o : List OrdrS} {l : List Int} {start each : Int} (hp : SmPc p) (ho : SmOr o) (hl : l.length ≤ 1000000) :
  Spec Tryz.prog 109 [avL p, avL o, avInts l, avI start, avI each] (fun y => y = .tup [schAV p o l start each, avI (scheF p o l start each)]) := by
 refine Spec.of_VC Tryz.func109 rfl Tryz.ntmps109 (Nle rfl) fun w A hB => ?_
 refine VC.sr ?_
 refine VO.mb ?_
 refine VO.mb ?_
 refine VO.nil ?_
 refine VC.seq ?_
 refine VC.sr ?_
 refine VO.mw ?_
 refine VO.mw ?_
 refine VO.op rfl (OpE.call rfl hB rfl Tryz.call103 rfl (SpecN.spec (plan_fault hp ho)) ?_)
 rintro _ rfl
 refine VO.mb ?_
 refine VO.nil ?_
 refine VC.sr ?_
 refine VO.mw ?_
 refine VO.vv (OpV.neq rfl rfl rfl) ?_
 refine VO.nil ?_
 refine VC.cond rfl (fun h0b => ?_) (fun h0b => ?_)
 ·have h0 := h0b
  try simp only [qq] at h0
  refine VC.sr ?_
  refine VO.mw ?_
  refine VO.mb ?_
  refine VO.mb ?_
  refine VO.nil ?_
  refine VC.ret ?_
  exact Exists.intro _ (And.intro (RetV.two Tryz.results109 (ResV.tmp rfl) (ResV.tmp rfl)) (by rw [schAV_no (by rw [scheF_1 h0]; exact h0), scheF_1 h0]))
 ·have h0 := h0b
  try simp only [qq] at h0
  refine VC.skip ?_
  refine VC.seq ?_
  refine VC.sr ?_
  refine VO.mw ?_
  refine VO.mw ?_
  refine VO.op rfl (OpE.call rfl hB rfl Tryz.call192 rfl (SpecN.spec (plan_scheduleFault ho.len hl)) ?_)
  rintro _ rfl
  refine VO.mb ?_
  refine VO.nil ?_
  refine VC.sr ?_
  refine VO.mw ?_
  refine VO.vv (OpV.neq rfl rfl rfl) ?_
  refine VO.nil ?_
  refine VC.cond rfl (fun h1b => ?_) (fun h1b => ?_)
  ·have h1 := h1b
   try simp only [qq] at h1
   refine VC.sr ?_
   refine VO.mw ?_
   refine VO.mb ?_
   refine VO.mb ?_
   refine VO.nil ?_
   refine VC.ret ?_
   exact Exists.intro _ (And.intro (RetV.two Tryz.results109 (ResV.tmp rfl) (ResV.tmp rfl)) (by rw [schAV_no (by rw [scheF_2 (by omega) h1]; exact h1), scheF_2 (by omega) h1]))
  ·have h1 := h1b
   try simp only [qq] at h1
   refine VC.skip ?_
   refine VC.seq ?_
   refine VC.sr ?_
   refine VO.mw ?_
   refine VO.mw ?_
   refine VO.op rfl (OpE.call rfl hB rfl Tryz.call104 rfl (SpecN.spec (plan_numbersFault)) ?_)
   rintro _ rfl
   refine VO.mb ?_
   refine VO.nil ?_
   refine VC.sr ?_
   refine VO.mw ?_
   refine VO.vv (OpV.neq rfl rfl rfl) ?_
   refine VO.nil ?_
   refine VC.cond rfl (fun h2b => ?_) (fun h2b => ?_)
   ·have h2 := h2b
    try simp only [qq] at h2
    refine VC.sr ?_
    refine VO.mw ?_
    refine VO.mb ?_
    refine VO.mb ?_
    refine VO.nil ?_
    refine VC.ret ?_
    exact Exists.intro _ (And.intro (RetV.two Tryz.results109 (ResV.tmp rfl) (ResV.tmp rfl)) (by rw [schAV_no (by rw [scheF_3 (by omega) (by omega)]; exact h2), scheF_3 (by omega) (by omega)]))
   ·have h2 := h2b
    try simp only [qq] at h2
    have hz : scheF p o l start each = 0 := by rw [scheF_3 (by omega) (by omega)]; omega
    have hk := schOk hz
    refine VC.skip ?_
    refine VC.sr ?_
    refine VO.mw ?_
    refine VO.mw ?_
    refine VO.mw ?_
    refine VO.op rfl (OpE.call rfl hB rfl Tryz.call105 rfl (plan_newScheduler hp hk.pok hk.ook hk.has hk.ea) ?_)
    rintro _ rfl
    refine VO.mb ?_
    refine VO.mb ?_
    refine VO.nil ?_
    refine VC.ret ?_
    exact Exists.intro _ (And.intro (RetV.two Tryz.results109 (ResV.tmp rfl) (ResV.tmp rfl)) (by rw [schAV_ok hz, hz]))
abbrev boxRes (g : Nat) (r : ResS) (ty : TypeId) : Ent := .box g ⟨[avI r.late, avI r.many, avI r.en], ty, 3⟩
set_option maxHeartbeats 8000000 in
theorem plan_run {τ : Type} {K : τ → List Ent → Prop} {step : τ → Int → WinS → τ} {p : List PaceS} {o : List OrdrS} {l : List Int} {start each : Int} {F : FuncId} {caps : Array Value} {h : List Ent} {a : τ} (hk : SchOk p o l start each) (hcd : ∀ us w, (callFunc F us).run Tryz.prog w = .ok (.enter F us) w) (hdo : DoesW o.length K step Tryz.prog F caps) (hK : K a h) :
  SpecH Tryz.prog 110 [.at_ 3 (schC p o each), avInts l, avI start, .v (.func (.func F) #[] caps)] h (fun y hp' => ∃ h' e1 e2, K (runA step p o l start each a l.length) h' ∧ y = .agg [avI (resP p o l start each l.length).late, avI (resP p o l start each l.length).many, avI (resP p o l start each l.length).en] ∧ hp' = e1 :: e2 :: h') := by
 refine SpecH.of_VC Tryz.func110 rfl Tryz.ntmps110 (Nle rfl) fun w A hB => ?_
 refine VC.seq ?_
 have hl := hk.len
 have ho := hk.ook.len
 refine VC.region ?_
 refine VO.op rfl (OpE.alloc rfl hB rfl Tryz.zeroValue199 rfl ?_)
 intro g8
 refine VO.le _ (Le.front rfl) ?_
 refine VO.nil ?_
 refine VC.sr ?_
 refine VO.mw ?_
 refine VO.vv (OpV.build (pls := #[(0, 1), (1, 1), (2, 1)]) rfl Tryz.zeroValue199 Tryz.underlying199 (fun w => by kernel_rfl) rfl rfl) ?_
 refine VO.op rfl (OpE.alloc rfl hB rfl Tryz.zeroValue199 rfl ?_)
 intro g9
 refine VO.le _ (Le.front rfl) ?_
 refine VO.op rfl (OpE.store (i := 0) rfl hB rfl Tryz.sizeOf199 rfl rfl rfl rfl rfl rfl (Nle rfl) trivial ?_)
 refine VO.nil ?_
 refine VC.seq ?_
 refine VC.sr ?_
 refine VO.mw ?_
 refine VO.vv (OpV.len_im rfl Tryz.underlying22 rfl) ?_
 refine VO.mw ?_
 refine VO.nil ?_
 refine VC.block ?_
 refine VC.loopK [(0, _), (1, _), (2, _), (3, _), (8, _), (9, _), (15, _), (16, _)] ⟨rfl, rfl, rfl, rfl, rfl, rfl, rfl, rfl, trivial⟩ ({z : List Ent × Nat // z.2 ≤ l.length ∧ K (runA step p o l start each a z.2) z.1}) (fun (iZ : {z : List Ent × Nat // z.2 ≤ l.length ∧ K (runA step p o l start each a z.2) z.1}) => match iZ with | ⟨⟨hh, q⟩, hq, hkk⟩ => [(17, avI (q : Int))]) (fun (iZ : {z : List Ent × Nat // z.2 ≤ l.length ∧ K (runA step p o l start each a z.2) z.1}) => match iZ with | ⟨⟨hh, q⟩, hq, hkk⟩ => [boxRes g9 (resP p o l start each q) 199, .box g8 ⟨[avI 0, avI 0, avI 0], 199, 3⟩] ++ hh) (fun (iZ : {z : List Ent × Nat // z.2 ≤ l.length ∧ K (runA step p o l start each a z.2) z.1}) => match iZ with | ⟨⟨hh, q⟩, hq, hkk⟩ => 0) (fun (iZ : {z : List Ent × Nat // z.2 ≤ l.length ∧ K (runA step p o l start each a z.2) z.1}) => match iZ with | ⟨⟨hh, q⟩, hq, hkk⟩ => l.length - q) ⟨(h, 0), Nat.zero_le _, hK⟩ (Le.mkP hB (by repeat first | refine ⟨rfl, ?_⟩ | trivial) (List.Sublist.refl _) (List.Perm.refl _) (Nat.le_refl _)) ?_
 rintro ⟨⟨hh, q⟩, hq, hkk⟩
 show VC _ _ _ _ ⟨[(17, avI (q : Int))] ++ [(0, _), (1, _), (2, _), (3, _), (8, _), (9, _), (15, _), (16, _)], [boxRes g9 (resP p o l start each q) 199, .box g8 ⟨[avI 0, avI 0, avI 0], 199, 3⟩] ++ hh, 0⟩
 simp only at hq hkk
 refine VC.sr ?_
 refine VO.vv (OpV.lss rfl rfl rfl) ?_
 refine VO.nil ?_
 refine VC.seq ?_
 refine VC.cond rfl (fun aH1b => ?_) (fun aH1b => ?_)
 ·have aH1 := aH1b
  try simp only [qq] at aH1
  refine VC.skip ?_
  refine VC.seq ?_
  refine VC.block ?_
  refine VC.seq ?_
  have hat := hk.at_ (q := q) (by omega)
  have hbd := hk.bd q (by omega)
  have hrs := hk.res q (by omega)
  have hfe := endP_from p o l start each q
  have hlo : 0 ≤ longO p (orA o (l.getD q 0)) ∧ longO p (orA o (l.getD q 0)) ≤ 1000000000000 := hk.long hat.2
  have hdu : (0 ≤ (orA o (l.getD q 0)).ready ∧ (orA o (l.getD q 0)).ready ≤ 345686399999) ∧ 0 ≤ (orA o (l.getD q 0)).due ∧ (orA o (l.getD q 0)).due ≤ 345686399999 := (hk.ook.all _ hat.2).2
  refine VC.region ?_
  refine VO.mw ?_
  refine VO.vv (OpV.indexAddr_1 rfl Tryz.underlying22 Tryz.sizeOf3 rfl rfl rfl (by omega)) ?_
  refine VO.vv (OpV.load_at rfl hB OutW.no Tryz.isAgg3 rfl rfl) ?_
  refine VO.mb ?_
  refine VO.mb ?_
  refine VO.nil ?_
  refine VC.sr ?_
  refine VO.mw ?_
  refine VO.mb ?_
  refine VO.nil ?_
  refine VC.seq ?_
  refine VC.sr ?_
  refine VO.mw ?_
  refine VO.vv (OpV.gtr rfl rfl rfl) ?_
  refine VO.nil ?_
  refine VC.cond rfl (fun aH2b => ?_) (fun aH2b => ?_)
  ·have aH2 := aH2b
   try simp only [qq] at aH2
   obtain ⟨q', hq'⟩ : ∃ q', q = q' + 1 := ⟨q - 1, by omega⟩
   have hen : (resP p o l start each q).en = endP p o l start each q' := by rw [hq', resP_en]
   have hfr : fromP p o l start each q = max (endP p o l start each q' + turnO p each (orA o (l.getD q' 0)) (orA o (l.getD q 0))) (orA o (l.getD q 0)).ready := by rw [hq']; rfl
   have hat1 := hk.at_ (q := q') (by omega)
   have htu : 0 ≤ turnO p each (orA o (l.getD q' 0)) (orA o (l.getD q 0)) ∧ turnO p each (orA o (l.getD q' 0)) (orA o (l.getD q 0)) ≤ 10000000000 := hk.turn hat.2
   refine VC.draw (fun _ => NoB) hB (by kernel_rfl) ?_
   refine VA.tk (i := 0) rfl (OpV.fieldAddrO 2 rfl Tryz.underlying199 rfl rfl Tryz.sizeOf3 rfl) ?_
   refine VA.tk (i := 1) rfl (OpV.load_own (i := 0) rfl hB Tryz.isAgg3 rfl rfl rfl Wi.not0) ?_
   refine VA.le _ (Le.recast (t := 26) (y := avI (endP p o l start each q')) rfl (fun w Z u h => by rw [hen] at h; exact h)) ?_
   refine VA.tk (i := 2) rfl (OpV.move (.inl rfl) rfl) ?_
   refine VA.tk (i := 3) rfl (OpV.nilCheck_at rfl rfl) ?_
   refine VA.tk (i := 4) rfl (OpV.fieldAddr_atO 2 rfl Tryz.underlying292 rfl rfl Tryz.sizeOf290 rfl rfl) ?_
   refine VA.tk (i := 5) rfl (OpV.load_at rfl hB OutW.wi0 Tryz.isAgg290 rfl rfl) ?_
   refine VA.tk (i := 6) rfl (OpV.move (.inl rfl) rfl) ?_
   refine VA.tk (i := 7) rfl (OpV.move (.inl rfl) rfl) ?_
   refine VA.tk (i := 8) rfl (OpV.sub rfl rfl rfl (by unfold fits; omega)) ?_
   refine VA.tk (i := 9) rfl (OpV.indexAddr_1 rfl Tryz.underlying22 Tryz.sizeOf3 rfl rfl (show ((q : Int) - 1) = (q' : Int) by omega) (by omega)) ?_
   refine VA.tk (i := 10) rfl (OpV.load_at rfl hB OutW.wi0 Tryz.isAgg3 rfl rfl) ?_
   refine VA.tk (i := 11) rfl (OpV.indexAddr_1 rfl Tryz.underlying290 Tryz.sizeOf22 rfl rfl (Int.toNat_of_nonneg hat1.1).symm (by rw [List.length_map]; exact hat1.2)) ?_
   refine VA.tk (i := 12) rfl (OpV.load_at rfl hB OutW.wi0 Tryz.isAgg22 rfl rfl) ?_
   refine VA.le _ (Le.recast (t := 37) (y := avInts (o.map (turnO p each (orA o (l.getD q' 0))))) rfl (fun w Z u h => by rw [map_getD (fun x => o.map (turnO p each x)) hat1.2 default default] at h; exact h)) ?_
   refine VA.tk (i := 13) rfl (OpV.move (.inl rfl) rfl) ?_
   refine VA.tk (i := 14) rfl (OpV.indexAddr_1 rfl Tryz.underlying22 Tryz.sizeOf3 rfl rfl (Int.toNat_of_nonneg hat.1).symm (by rw [List.length_map]; exact hat.2)) ?_
   refine VA.tk (i := 15) rfl (OpV.load_at rfl hB OutW.wi0 Tryz.isAgg3 rfl rfl) ?_
   refine VA.le _ (Le.recast (t := 40) (y := avI (turnO p each (orA o (l.getD q' 0)) (orA o (l.getD q 0)))) rfl (fun w Z u h => by rw [map_getD (turnO p each (orA o (l.getD q' 0))) hat.2 default 0] at h; exact h)) ?_
   refine VA.tk (i := 16) rfl (OpV.add rfl rfl rfl ((by have := hk.bd q' (by omega); unfold fits; omega))) ?_
   refine VA.tk (i := 17) rfl (OpV.move (.inr rfl) rfl) ?_
   refine VA.done (by kernel_rfl) ?_
   refine VC.sr ?_
   refine VO.mw ?_
   refine VO.mw ?_
   refine VO.vv (OpV.nilCheck_at rfl rfl) ?_
   refine VO.vv (OpV.fieldAddr_atO 0 rfl Tryz.underlying292 rfl rfl Tryz.sizeOf93 rfl rfl) ?_
   refine VO.vv (OpV.load_at rfl hB OutW.no Tryz.isAgg93 rfl rfl) ?_
   refine VO.le _ (Le.recast (t := 46) (y := avL o) rfl (fun w Z u h => h)) ?_
   refine VO.mw ?_
   refine VO.vv (OpV.indexAddr_E rfl Tryz.underlying93 Tryz.sizeOf110 rfl rfl (Int.toNat_of_nonneg hat.1).symm hat.2) ?_
   refine VO.vv (OpV.fieldAddr_atO 3 rfl Tryz.underlying110 rfl rfl Tryz.sizeOf3 rfl rfl) ?_
   refine VO.vv (OpV.load_at rfl hB OutW.no Tryz.isAgg3 rfl rfl) ?_
   refine VO.vv (OpV.max2 rfl rfl rfl) ?_
   refine VO.le _ (Le.recast (t := 51) (y := avI (fromP p o l start each q)) rfl (fun w Z u h => by rw [hfr]; exact h)) ?_
   refine VO.mb ?_
   refine VO.nil ?_
   refine VC.sr ?_
   refine VO.mw ?_
   refine VO.mw ?_
   refine VO.vv (OpV.nilCheck_at rfl rfl) ?_
   refine VO.vv (OpV.fieldAddr_atO 1 rfl Tryz.underlying292 rfl rfl Tryz.sizeOf22 rfl rfl) ?_
   refine VO.vv (OpV.load_at rfl hB OutW.no Tryz.isAgg22 rfl rfl) ?_
   refine VO.mw ?_
   refine VO.vv (OpV.indexAddr_1 rfl Tryz.underlying22 Tryz.sizeOf3 rfl rfl (Int.toNat_of_nonneg hat.1).symm (by rw [List.length_map]; exact hat.2)) ?_
   refine VO.vv (OpV.load_at rfl hB OutW.no Tryz.isAgg3 rfl rfl) ?_
   refine VO.le _ (Le.recast (t := 59) (y := avI (longO p (orA o (l.getD q 0)))) rfl (fun w Z u h => by rw [map_getD (longO p) hat.2 default 0] at h; exact h)) ?_
   refine VO.vv (OpV.add rfl rfl rfl ((by unfold fits; rw [← hfe]; omega))) ?_
   refine VO.le _ (Le.recast (t := 60) (y := avI (endP p o l start each q)) rfl (fun w Z u h => by rw [hfe]; exact h)) ?_
   refine VO.vv (OpV.fieldAddrO 2 rfl Tryz.underlying199 rfl rfl Tryz.sizeOf3 rfl) ?_
   refine VO.op rfl (OpE.store (i := 0) rfl hB rfl Tryz.sizeOf3 rfl rfl rfl rfl rfl rfl (Nle rfl) trivial ?_)
   refine VO.nil ?_
   refine VC.sr ?_
   refine VO.mw ?_
   refine VO.mw ?_
   refine VO.mw ?_
   refine VO.vv (OpV.fieldAddrO 2 rfl Tryz.underlying199 rfl rfl Tryz.sizeOf3 rfl) ?_
   refine VO.vv (OpV.load_own (i := 0) rfl hB Tryz.isAgg3 rfl rfl rfl (fun h => h)) ?_
   refine VO.vv (OpV.build (pls := #[(0, 1), (1, 1)]) rfl Tryz.zeroValue104 Tryz.underlying104 (fun w => by kernel_rfl) rfl rfl) ?_
   refine VO.op rfl (OpE.callH rfl hB rfl hcd rfl rfl (hdo (l.getD q 0) (winP p o l start each q) (runA step p o l start each a q) hh hat.1 hat.2 hkk) (List.perm_append_comm (l₁ := [_, _]) (l₂ := hh)) (fun _ _ => trivial) ?_)
   rintro _ h2 hk2
   refine VO.le _ (Le.perm (List.perm_append_comm (l₁ := h2) (l₂ := [_, _]))) ?_
   refine VO.nil ?_
   refine VC.seq ?_
   refine VC.draw (fun _ => NoB) hB (by kernel_rfl) ?_
   refine VA.tk (i := 0) rfl (OpV.fieldAddrO 2 rfl Tryz.underlying199 rfl rfl Tryz.sizeOf3 rfl) ?_
   refine VA.tk (i := 1) rfl (OpV.load_own (i := 0) rfl hB Tryz.isAgg3 rfl rfl rfl Wi.not0) ?_
   refine VA.tk (i := 2) rfl (OpV.move (.inl rfl) rfl) ?_
   refine VA.tk (i := 3) rfl (OpV.nilCheck_at rfl rfl) ?_
   refine VA.tk (i := 4) rfl (OpV.fieldAddr_atO 0 rfl Tryz.underlying292 rfl rfl Tryz.sizeOf93 rfl rfl) ?_
   refine VA.tk (i := 5) rfl (OpV.load_at rfl hB OutW.wi0 Tryz.isAgg93 rfl rfl) ?_
   refine VA.le _ (Le.recast (t := 74) (y := avL o) rfl (fun w Z u h => h)) ?_
   refine VA.tk (i := 6) rfl (OpV.move (.inl rfl) rfl) ?_
   refine VA.tk (i := 7) rfl (OpV.indexAddr_E rfl Tryz.underlying93 Tryz.sizeOf110 rfl rfl (Int.toNat_of_nonneg hat.1).symm hat.2) ?_
   refine VA.tk (i := 8) rfl (OpV.fieldAddr_atO 4 rfl Tryz.underlying110 rfl rfl Tryz.sizeOf3 rfl rfl) ?_
   refine VA.tk (i := 9) rfl (OpV.load_at rfl hB OutW.wi0 Tryz.isAgg3 rfl rfl) ?_
   refine VA.le _ (Le.recast (t := 78) (y := avI (orA o (l.getD q 0)).due) rfl (fun w Z u h => h)) ?_
   refine VA.tk (i := 10) rfl (OpV.gtr rfl rfl rfl) ?_
   refine VA.done (by kernel_rfl) ?_
   refine VC.cond rfl (fun hdb => ?_) (fun hdb => ?_)
   ·have hd := hdb
    try simp only [qq] at hd
    refine VC.seq ?_
    refine VC.draw (fun j b => j = 15 ∧ b = g9) hB (by kernel_rfl) ?_
    refine VA.tk (i := 0) rfl (OpV.fieldAddrO 0 rfl Tryz.underlying199 rfl rfl Tryz.sizeOf3 rfl) ?_
    refine VA.tk (i := 1) rfl (OpV.load_own (i := 0) rfl hB Tryz.isAgg3 rfl rfl rfl (by first | exact Wi.not1 (by kernel_rfl) | exact Wi.not2 (by kernel_rfl) (by kernel_rfl) | exact Wi.notX (by kernel_rfl))) ?_
    refine VA.tk (i := 2) rfl (OpV.fieldAddrO 2 rfl Tryz.underlying199 rfl rfl Tryz.sizeOf3 rfl) ?_
    refine VA.tk (i := 3) rfl (OpV.load_own (i := 0) rfl hB Tryz.isAgg3 rfl rfl rfl (by first | exact Wi.not1 (by kernel_rfl) | exact Wi.not2 (by kernel_rfl) (by kernel_rfl) | exact Wi.notX (by kernel_rfl))) ?_
    refine VA.tk (i := 4) rfl (OpV.move (.inl rfl) rfl) ?_
    refine VA.tk (i := 5) rfl (OpV.nilCheck_at rfl rfl) ?_
    refine VA.tk (i := 6) rfl (OpV.fieldAddr_atO 0 rfl Tryz.underlying292 rfl rfl Tryz.sizeOf93 rfl rfl) ?_
    refine VA.tk (i := 7) rfl (OpV.load_at rfl hB (by first | exact OutW.wi1 (k := 0) rfl rfl | exact OutW.wi1 (k := 1) rfl rfl) Tryz.isAgg93 rfl rfl) ?_
    refine VA.le _ (Le.recast (t := 87) (y := avL o) rfl (fun w Z u h => h)) ?_
    refine VA.tk (i := 8) rfl (OpV.move (.inl rfl) rfl) ?_
    refine VA.tk (i := 9) rfl (OpV.indexAddr_E rfl Tryz.underlying93 Tryz.sizeOf110 rfl rfl (Int.toNat_of_nonneg hat.1).symm hat.2) ?_
    refine VA.tk (i := 10) rfl (OpV.fieldAddr_atO 4 rfl Tryz.underlying110 rfl rfl Tryz.sizeOf3 rfl rfl) ?_
    refine VA.tk (i := 11) rfl (OpV.load_at rfl hB (by first | exact OutW.wi1 (k := 0) rfl rfl | exact OutW.wi1 (k := 1) rfl rfl) Tryz.isAgg3 rfl rfl) ?_
    refine VA.le _ (Le.recast (t := 91) (y := avI (orA o (l.getD q 0)).due) rfl (fun w Z u h => h)) ?_
    refine VA.tk (i := 12) rfl (OpV.sub rfl rfl rfl (by unfold fits; omega)) ?_
    refine VA.tk (i := 13) rfl (OpV.add rfl rfl rfl (by unfold fits; omega)) ?_
    refine VA.tk (i := 14) rfl (OpV.fieldAddrO 0 rfl Tryz.underlying199 rfl rfl Tryz.sizeOf3 rfl) ?_
    refine VA.all (rs := [15]) (by kernel_rfl) (by decide) ?_
    refine ⟨⟨_, rfl, .inl rfl, ?_⟩, trivial⟩
    refine OpE.store (i := 0) rfl hB rfl Tryz.sizeOf3 rfl rfl rfl rfl rfl rfl (Nle rfl) (by first | exact ⟨rfl, rfl⟩ | exact .inl ⟨rfl, rfl⟩ | exact .inr ⟨rfl, rfl⟩ | exact ⟨rfl, trivial⟩ | exact .inl ⟨rfl, trivial⟩ | exact .inr ⟨rfl, trivial⟩ | exact ⟨by decide, rfl⟩) ?_
    refine VA.done (by kernel_rfl) ?_
    refine VC.region ?_
    refine VO.vv (OpV.fieldAddrO 1 rfl Tryz.underlying199 rfl rfl Tryz.sizeOf3 rfl) ?_
    refine VO.vv (OpV.load_own (i := 0) rfl hB Tryz.isAgg3 rfl rfl rfl (fun h => h)) ?_
    refine VO.vv (OpV.add rfl rfl rfl (by unfold fits; omega)) ?_
    refine VO.vv (OpV.fieldAddrO 1 rfl Tryz.underlying199 rfl rfl Tryz.sizeOf3 rfl) ?_
    refine VO.op rfl (OpE.store (i := 0) rfl hB rfl Tryz.sizeOf3 rfl rfl rfl rfl rfl rfl (Nle rfl) trivial ?_)
    refine VO.nil ?_
    refine VC.region ?_
    refine VO.vv (OpV.add rfl rfl rfl (by unfold fits; omega)) ?_
    refine VO.mw ?_
    refine VO.nil ?_
    exact Exists.intro (⟨(h2, q + 1), by show q + 1 ≤ _; omega, hk2⟩) (And.intro (Le.mkP hB (by repeat first | refine ⟨rfl, ?_⟩ | trivial) (List.Sublist.refl _) (List.Perm.of_eq (by first | exact congrArg (fun z => boxRes g9 z 199 :: .box g8 ⟨[avI 0, avI 0, avI 0], 199, 3⟩ :: h2) (resP_t (p := p) (o := o) (l := l) (s := start) (e := each) (q := q) hd).symm | exact congrArg (fun z => boxRes g9 z 199 :: .box g8 ⟨[avI 0, avI 0, avI 0], 199, 3⟩ :: h2) (resP_f (p := p) (o := o) (l := l) (s := start) (e := each) (q := q) (Int.not_lt.2 hd)).symm)) (Nat.le_refl _)) (by first | omega | (show _ < _; omega) | (simp only []; omega)))
   ·have hd := hdb
    try simp only [qq] at hd
    refine VC.skip ?_
    refine VC.region ?_
    refine VO.vv (OpV.add rfl rfl rfl (by unfold fits; omega)) ?_
    refine VO.mw ?_
    refine VO.nil ?_
    exact Exists.intro (⟨(h2, q + 1), by show q + 1 ≤ _; omega, hk2⟩) (And.intro (Le.mkP hB (by repeat first | refine ⟨rfl, ?_⟩ | trivial) (List.Sublist.refl _) (List.Perm.of_eq (by first | exact congrArg (fun z => boxRes g9 z 199 :: .box g8 ⟨[avI 0, avI 0, avI 0], 199, 3⟩ :: h2) (resP_t (p := p) (o := o) (l := l) (s := start) (e := each) (q := q) hd).symm | exact congrArg (fun z => boxRes g9 z 199 :: .box g8 ⟨[avI 0, avI 0, avI 0], 199, 3⟩ :: h2) (resP_f (p := p) (o := o) (l := l) (s := start) (e := each) (q := q) (Int.not_lt.2 hd)).symm)) (Nat.le_refl _)) (by first | omega | (show _ < _; omega) | (simp only []; omega)))
  ·have aH2 := aH2b
   try simp only [qq] at aH2
   have hq0 : q = 0 := by omega
   have hfr0 : fromP p o l start each q = max start (orA o (l.getD q 0)).ready := by rw [hq0]; rfl
   refine VC.skip ?_
   refine VC.sr ?_
   refine VO.mw ?_
   refine VO.mw ?_
   refine VO.vv (OpV.nilCheck_at rfl rfl) ?_
   refine VO.vv (OpV.fieldAddr_atO 0 rfl Tryz.underlying292 rfl rfl Tryz.sizeOf93 rfl rfl) ?_
   refine VO.vv (OpV.load_at rfl hB OutW.no Tryz.isAgg93 rfl rfl) ?_
   refine VO.le _ (Le.recast (t := 46) (y := avL o) rfl (fun w Z u h => h)) ?_
   refine VO.mw ?_
   refine VO.vv (OpV.indexAddr_E rfl Tryz.underlying93 Tryz.sizeOf110 rfl rfl (Int.toNat_of_nonneg hat.1).symm hat.2) ?_
   refine VO.vv (OpV.fieldAddr_atO 3 rfl Tryz.underlying110 rfl rfl Tryz.sizeOf3 rfl rfl) ?_
   refine VO.vv (OpV.load_at rfl hB OutW.no Tryz.isAgg3 rfl rfl) ?_
   refine VO.vv (OpV.max2 rfl rfl rfl) ?_
   refine VO.le _ (Le.recast (t := 51) (y := avI (fromP p o l start each q)) rfl (fun w Z u h => by rw [hfr0]; exact h)) ?_
   refine VO.mb ?_
   refine VO.nil ?_
   refine VC.sr ?_
   refine VO.mw ?_
   refine VO.mw ?_
   refine VO.vv (OpV.nilCheck_at rfl rfl) ?_
   refine VO.vv (OpV.fieldAddr_atO 1 rfl Tryz.underlying292 rfl rfl Tryz.sizeOf22 rfl rfl) ?_
   refine VO.vv (OpV.load_at rfl hB OutW.no Tryz.isAgg22 rfl rfl) ?_
   refine VO.mw ?_
   refine VO.vv (OpV.indexAddr_1 rfl Tryz.underlying22 Tryz.sizeOf3 rfl rfl (Int.toNat_of_nonneg hat.1).symm (by rw [List.length_map]; exact hat.2)) ?_
   refine VO.vv (OpV.load_at rfl hB OutW.no Tryz.isAgg3 rfl rfl) ?_
   refine VO.le _ (Le.recast (t := 59) (y := avI (longO p (orA o (l.getD q 0)))) rfl (fun w Z u h => by rw [map_getD (longO p) hat.2 default 0] at h; exact h)) ?_
   refine VO.vv (OpV.add rfl rfl rfl ((by unfold fits; rw [← hfe]; omega))) ?_
   refine VO.le _ (Le.recast (t := 60) (y := avI (endP p o l start each q)) rfl (fun w Z u h => by rw [hfe]; exact h)) ?_
   refine VO.vv (OpV.fieldAddrO 2 rfl Tryz.underlying199 rfl rfl Tryz.sizeOf3 rfl) ?_
   refine VO.op rfl (OpE.store (i := 0) rfl hB rfl Tryz.sizeOf3 rfl rfl rfl rfl rfl rfl (Nle rfl) trivial ?_)
   refine VO.nil ?_
   refine VC.sr ?_
   refine VO.mw ?_
   refine VO.mw ?_
   refine VO.mw ?_
   refine VO.vv (OpV.fieldAddrO 2 rfl Tryz.underlying199 rfl rfl Tryz.sizeOf3 rfl) ?_
   refine VO.vv (OpV.load_own (i := 0) rfl hB Tryz.isAgg3 rfl rfl rfl (fun h => h)) ?_
   refine VO.vv (OpV.build (pls := #[(0, 1), (1, 1)]) rfl Tryz.zeroValue104 Tryz.underlying104 (fun w => by kernel_rfl) rfl rfl) ?_
   refine VO.op rfl (OpE.callH rfl hB rfl hcd rfl rfl (hdo (l.getD q 0) (winP p o l start each q) (runA step p o l start each a q) hh hat.1 hat.2 hkk) (List.perm_append_comm (l₁ := [_, _]) (l₂ := hh)) (fun _ _ => trivial) ?_)
   rintro _ h2 hk2
   refine VO.le _ (Le.perm (List.perm_append_comm (l₁ := h2) (l₂ := [_, _]))) ?_
   refine VO.nil ?_
   refine VC.seq ?_
   refine VC.draw (fun _ => NoB) hB (by kernel_rfl) ?_
   refine VA.tk (i := 0) rfl (OpV.fieldAddrO 2 rfl Tryz.underlying199 rfl rfl Tryz.sizeOf3 rfl) ?_
   refine VA.tk (i := 1) rfl (OpV.load_own (i := 0) rfl hB Tryz.isAgg3 rfl rfl rfl Wi.not0) ?_
   refine VA.tk (i := 2) rfl (OpV.move (.inl rfl) rfl) ?_
   refine VA.tk (i := 3) rfl (OpV.nilCheck_at rfl rfl) ?_
   refine VA.tk (i := 4) rfl (OpV.fieldAddr_atO 0 rfl Tryz.underlying292 rfl rfl Tryz.sizeOf93 rfl rfl) ?_
   refine VA.tk (i := 5) rfl (OpV.load_at rfl hB OutW.wi0 Tryz.isAgg93 rfl rfl) ?_
   refine VA.le _ (Le.recast (t := 74) (y := avL o) rfl (fun w Z u h => h)) ?_
   refine VA.tk (i := 6) rfl (OpV.move (.inl rfl) rfl) ?_
   refine VA.tk (i := 7) rfl (OpV.indexAddr_E rfl Tryz.underlying93 Tryz.sizeOf110 rfl rfl (Int.toNat_of_nonneg hat.1).symm hat.2) ?_
   refine VA.tk (i := 8) rfl (OpV.fieldAddr_atO 4 rfl Tryz.underlying110 rfl rfl Tryz.sizeOf3 rfl rfl) ?_
   refine VA.tk (i := 9) rfl (OpV.load_at rfl hB OutW.wi0 Tryz.isAgg3 rfl rfl) ?_
   refine VA.le _ (Le.recast (t := 78) (y := avI (orA o (l.getD q 0)).due) rfl (fun w Z u h => h)) ?_
   refine VA.tk (i := 10) rfl (OpV.gtr rfl rfl rfl) ?_
   refine VA.done (by kernel_rfl) ?_
   refine VC.cond rfl (fun hdb => ?_) (fun hdb => ?_)
   ·have hd := hdb
    try simp only [qq] at hd
    refine VC.seq ?_
    refine VC.draw (fun j b => j = 15 ∧ b = g9) hB (by kernel_rfl) ?_
    refine VA.tk (i := 0) rfl (OpV.fieldAddrO 0 rfl Tryz.underlying199 rfl rfl Tryz.sizeOf3 rfl) ?_
    refine VA.tk (i := 1) rfl (OpV.load_own (i := 0) rfl hB Tryz.isAgg3 rfl rfl rfl (by first | exact Wi.not1 (by kernel_rfl) | exact Wi.not2 (by kernel_rfl) (by kernel_rfl) | exact Wi.notX (by kernel_rfl))) ?_
    refine VA.tk (i := 2) rfl (OpV.fieldAddrO 2 rfl Tryz.underlying199 rfl rfl Tryz.sizeOf3 rfl) ?_
    refine VA.tk (i := 3) rfl (OpV.load_own (i := 0) rfl hB Tryz.isAgg3 rfl rfl rfl (by first | exact Wi.not1 (by kernel_rfl) | exact Wi.not2 (by kernel_rfl) (by kernel_rfl) | exact Wi.notX (by kernel_rfl))) ?_
    refine VA.tk (i := 4) rfl (OpV.move (.inl rfl) rfl) ?_
    refine VA.tk (i := 5) rfl (OpV.nilCheck_at rfl rfl) ?_
    refine VA.tk (i := 6) rfl (OpV.fieldAddr_atO 0 rfl Tryz.underlying292 rfl rfl Tryz.sizeOf93 rfl rfl) ?_
    refine VA.tk (i := 7) rfl (OpV.load_at rfl hB (by first | exact OutW.wi1 (k := 0) rfl rfl | exact OutW.wi1 (k := 1) rfl rfl) Tryz.isAgg93 rfl rfl) ?_
    refine VA.le _ (Le.recast (t := 87) (y := avL o) rfl (fun w Z u h => h)) ?_
    refine VA.tk (i := 8) rfl (OpV.move (.inl rfl) rfl) ?_
    refine VA.tk (i := 9) rfl (OpV.indexAddr_E rfl Tryz.underlying93 Tryz.sizeOf110 rfl rfl (Int.toNat_of_nonneg hat.1).symm hat.2) ?_
    refine VA.tk (i := 10) rfl (OpV.fieldAddr_atO 4 rfl Tryz.underlying110 rfl rfl Tryz.sizeOf3 rfl rfl) ?_
    refine VA.tk (i := 11) rfl (OpV.load_at rfl hB (by first | exact OutW.wi1 (k := 0) rfl rfl | exact OutW.wi1 (k := 1) rfl rfl) Tryz.isAgg3 rfl rfl) ?_
    refine VA.le _ (Le.recast (t := 91) (y := avI (orA o (l.getD q 0)).due) rfl (fun w Z u h => h)) ?_
    refine VA.tk (i := 12) rfl (OpV.sub rfl rfl rfl (by unfold fits; omega)) ?_
    refine VA.tk (i := 13) rfl (OpV.add rfl rfl rfl (by unfold fits; omega)) ?_
    refine VA.tk (i := 14) rfl (OpV.fieldAddrO 0 rfl Tryz.underlying199 rfl rfl Tryz.sizeOf3 rfl) ?_
    refine VA.all (rs := [15]) (by kernel_rfl) (by decide) ?_
    refine ⟨⟨_, rfl, .inl rfl, ?_⟩, trivial⟩
    refine OpE.store (i := 0) rfl hB rfl Tryz.sizeOf3 rfl rfl rfl rfl rfl rfl (Nle rfl) (by first | exact ⟨rfl, rfl⟩ | exact .inl ⟨rfl, rfl⟩ | exact .inr ⟨rfl, rfl⟩ | exact ⟨rfl, trivial⟩ | exact .inl ⟨rfl, trivial⟩ | exact .inr ⟨rfl, trivial⟩ | exact ⟨by decide, rfl⟩) ?_
    refine VA.done (by kernel_rfl) ?_
    refine VC.region ?_
    refine VO.vv (OpV.fieldAddrO 1 rfl Tryz.underlying199 rfl rfl Tryz.sizeOf3 rfl) ?_
    refine VO.vv (OpV.load_own (i := 0) rfl hB Tryz.isAgg3 rfl rfl rfl (fun h => h)) ?_
    refine VO.vv (OpV.add rfl rfl rfl (by unfold fits; omega)) ?_
    refine VO.vv (OpV.fieldAddrO 1 rfl Tryz.underlying199 rfl rfl Tryz.sizeOf3 rfl) ?_
    refine VO.op rfl (OpE.store (i := 0) rfl hB rfl Tryz.sizeOf3 rfl rfl rfl rfl rfl rfl (Nle rfl) trivial ?_)
    refine VO.nil ?_
    refine VC.region ?_
    refine VO.vv (OpV.add rfl rfl rfl (by unfold fits; omega)) ?_
    refine VO.mw ?_
    refine VO.nil ?_
    exact Exists.intro (⟨(h2, q + 1), by show q + 1 ≤ _; omega, hk2⟩) (And.intro (Le.mkP hB (by repeat first | refine ⟨rfl, ?_⟩ | trivial) (List.Sublist.refl _) (List.Perm.of_eq (by first | exact congrArg (fun z => boxRes g9 z 199 :: .box g8 ⟨[avI 0, avI 0, avI 0], 199, 3⟩ :: h2) (resP_t (p := p) (o := o) (l := l) (s := start) (e := each) (q := q) hd).symm | exact congrArg (fun z => boxRes g9 z 199 :: .box g8 ⟨[avI 0, avI 0, avI 0], 199, 3⟩ :: h2) (resP_f (p := p) (o := o) (l := l) (s := start) (e := each) (q := q) (Int.not_lt.2 hd)).symm)) (Nat.le_refl _)) (by first | omega | (show _ < _; omega) | (simp only []; omega)))
   ·have hd := hdb
    try simp only [qq] at hd
    refine VC.skip ?_
    refine VC.region ?_
    refine VO.vv (OpV.add rfl rfl rfl (by unfold fits; omega)) ?_
    refine VO.mw ?_
    refine VO.nil ?_
    exact Exists.intro (⟨(h2, q + 1), by show q + 1 ≤ _; omega, hk2⟩) (And.intro (Le.mkP hB (by repeat first | refine ⟨rfl, ?_⟩ | trivial) (List.Sublist.refl _) (List.Perm.of_eq (by first | exact congrArg (fun z => boxRes g9 z 199 :: .box g8 ⟨[avI 0, avI 0, avI 0], 199, 3⟩ :: h2) (resP_t (p := p) (o := o) (l := l) (s := start) (e := each) (q := q) hd).symm | exact congrArg (fun z => boxRes g9 z 199 :: .box g8 ⟨[avI 0, avI 0, avI 0], 199, 3⟩ :: h2) (resP_f (p := p) (o := o) (l := l) (s := start) (e := each) (q := q) (Int.not_lt.2 hd)).symm)) (Nat.le_refl _)) (by first | omega | (show _ < _; omega) | (simp only []; omega)))
 ·have aH1 := aH1b
  try simp only [qq] at aH1
  obtain rfl : q = l.length := by omega
  refine VC.exit ?_
  refine VC.sr ?_
  refine VO.vv (OpV.loadK_own (i := 0) rfl hB Tryz.isAgg199 Tryz.sizeOf199 rfl rfl rfl (fun h => h)) ?_
  refine VO.op rfl (OpE.store (i := 1) rfl hB rfl Tryz.sizeOf199 rfl rfl rfl rfl rfl rfl (Nle rfl) trivial ?_)
  refine VO.nil ?_
  refine VC.ret ?_
  exact Exists.intro _ (And.intro (RetV.one Tryz.results110 ((by first | exact ResV.cellK (i := 0) Tryz.isAgg199 Tryz.sizeOf199 rfl rfl rfl | exact ResV.cellK (i := 1) Tryz.isAgg199 Tryz.sizeOf199 rfl rfl rfl))) (⟨hh, _, _, hkk, rfl, rfl⟩))
theorem made_win (n : Nat) : (madeCells (Value.agg #[.int .i64 0, .int .i64 0]).cells (n * 2)).toList.map AV.v = rowL (List.replicate n (default : WinS)) := by
 apply List.ext_getElem
 ·rw [rowL_len]; simp [size_madeCells]; rfl
 intro i h1 h2
 have hi : i < n * 2 := by simpa [size_madeCells] using h1
 have e2 := rowL_get' (List.replicate n (default : WinS)) (i := i) (by rw [List.length_replicate]; exact hi)
 rw [List.getElem?_eq_getElem h2] at e2
 have e3 := Option.some.inj e2
 rw [e3]
 have hd : (List.replicate n (default : WinS)).getD (i / Sxc.k WinS) default = default := by
  rw [List.getD_eq_getElem?_getD, List.getElem?_replicate]; split <;> rfl
 rw [hd]
 have hm : i % 2 = 0 ∨ i % 2 = 1 := by omega
 have hk : Sxc.k WinS = 2 := rfl
 rw [hk]
 simp only [List.getElem_map, Array.getElem_toList, madeCells, Array.getElem_map, Array.getElem_range]
 rcases hm with hm | hm <;> rw [show (Value.agg #[.int .i64 0, .int .i64 0]).cells = #[.int .i64 0, .int .i64 0] from rfl, show (#[Value.int .i64 0, Value.int .i64 0]).size = 2 from rfl, hm] <;> rfl
theorem plan_Times1 {n : Nat} {i : Int} {x : WinS} {l : List WinS} {g14 g29 : Nat} (hl : l.length = n) (h0 : 0 ≤ i) (h1 : i.toNat < n) :
  SpecH Tryz.prog 111 [avI i, .agg [avI x.fr, avI x.to], .v (.pointer (some ⟨g14, 0, none⟩))] [.box g14 ⟨[.v (.slice (some ⟨g29, 0, none⟩) n n)], 99, 1⟩, .box g29 ⟨rowL l, 104, n * 2⟩] (fun y hp' => hp' = [.box g14 ⟨[.v (.slice (some ⟨g29, 0, none⟩) n n)], 99, 1⟩, .box g29 ⟨rowL (l.set i.toNat x), 104, n * 2⟩]) := by
 refine SpecH.of_VC Tryz.func111 rfl Tryz.ntmps111 (Nle rfl) fun w A hB => ?_
 refine VC.sr ?_
 refine VO.op rfl (OpE.box rfl hB rfl rfl rfl ?_)
 intro g4
 refine VO.nil ?_
 refine VC.region ?_
 refine VO.vv (OpV.load_own (i := 0) rfl hB Tryz.isAgg99 rfl rfl rfl (fun h => h)) ?_
 refine VO.mw ?_
 refine VO.vv (OpV.loadK_own (i := 2) rfl hB Tryz.isAgg104 Tryz.sizeOf104 rfl rfl rfl (fun h => h)) ?_
 refine VO.le _ (Le.pickH [0, 1] rfl rfl) ?_
 refine VO.vv (OpV.indexAddr_q rfl Tryz.underlying99 Tryz.sizeOf104 rfl rfl (Int.toNat_of_nonneg h0).symm h1) ?_
 refine VO.op rfl (OpE.storeE (i := 1) rfl hB rfl Tryz.sizeOf104 rfl rfl rfl rfl rfl rfl (rowL_inE rfl (by omega)) (rowL_setAll (x := x) rfl (by omega)) trivial ?_)
 refine VO.nil ?_
 exact Exists.intro _ (And.intro (RetV.none Tryz.results111) (rfl))
def KT (n g14 g29 : Nat) (a : List WinS) (h : List Ent) : Prop := a.length = n ∧ h = [.box g14 ⟨[.v (.slice (some ⟨g29, 0, none⟩) n n)], 99, 1⟩, .box g29 ⟨rowL a, 104, n * 2⟩]
theorem times_does {n g14 g29 : Nat} : DoesW n (KT n g14 g29) (fun (a : List WinS) i w => a.set i.toNat w) Tryz.prog 111 #[.pointer (some ⟨g14, 0, none⟩)] := by
 rintro i w a h h0 h1 ⟨hl, rfl⟩
 refine (plan_Times1 (x := w) (l := a) hl h0 h1).mono ?_
 rintro y hp' rfl
 exact ⟨by rw [List.length_set]; exact hl, rfl⟩
theorem flat_win (xs : List WinS) : FlatA (rowL xs) := flat_rowL (fun x j hj => by
 match j, hj with
 | 0, _ => exact ⟨_, rfl⟩
 | 1, _ => exact ⟨_, rfl⟩) xs
set_option maxHeartbeats 4000000 in
theorem plan_Times {p : List PaceS} {o : List OrdrS} {l : List Int} {start each : Int} (hp : SmPc p) (ho : SmOr o) (hl : l.length ≤ 1000000) :
  SpecN Tryz.prog 42 [avL p, avL o, avInts l, avI start, avI each] (fun y => y = .tup [avL (timesR p o l start each), avI (scheF p o l start each)]) := by
 refine SpecN.of_VCN Tryz.func42 rfl Tryz.ntmps42 (Nle rfl) fun w A hB => ?_
 refine VC.sr ?_
 refine VO.mb ?_
 refine VO.mb ?_
 refine VO.nil ?_
 refine VC.sr ?_
 refine VO.mw ?_
 refine VO.mw ?_
 refine VO.mw ?_
 refine VO.mw ?_
 refine VO.mw ?_
 refine VO.op rfl (OpE.call rfl hB rfl Tryz.call109 rfl (plan_scheduled hp ho hl) ?_)
 rintro _ rfl
 refine VO.mw ?_
 refine VO.vv (OpV.extract rfl rfl rfl) ?_
 refine VO.vv (OpV.extract rfl rfl rfl) ?_
 refine VO.mb ?_
 refine VO.mb ?_
 refine VO.nil ?_
 refine VC.seq ?_
 refine VC.sr ?_
 refine VO.mw ?_
 refine VO.vv (OpV.neq rfl rfl rfl) ?_
 refine VO.nil ?_
 refine VC.cond rfl (fun h0b => ?_) (fun h0b => ?_)
 ·have h0 := h0b
  try simp only [qq] at h0
  have hE : timesR p o l start each = [] := by rw [timesR, if_neg h0]
  refine VC.sr ?_
  refine VO.mw ?_
  refine VO.mb ?_
  refine VO.mb ?_
  refine VO.nil ?_
  refine VC.ret ?_
  exact Exists.intro _ (And.intro (RetN.two Tryz.results42 (ResN.nilE rfl) (ResN.v rfl)) (by rw [hE]; rfl))
 ·have h0 := h0b
  try simp only [qq] at h0
  have h00 : scheF p o l start each = 0 := by omega
  have hk := schOk h00
  have hol := hk.ook.len
  have hE : timesR p o l start each = timesQ p o l start each l.length := by rw [timesR, if_pos h00]
  refine VC.le _ (Le.recast (t := 12) (y := .at_ 3 (schC p o each)) rfl (fun w Z u h => by rw [← schAV_ok h00]; exact h)) ?_
  refine VC.skip ?_
  refine VC.sr ?_
  refine VO.mw ?_
  refine VO.vv (OpV.len_im rfl Tryz.underlying93 rfl) ?_
  refine VO.op rfl (OpE.make rfl hB rfl Tryz.underlying99 (infoOf Tryz.t104 2 (by kernel_rfl) rfl rfl) (by decide) rfl rfl (n := o.length) rfl rfl (by omega) (made_win o.length) ?_)
  intro g29
  rw [show (rowL (List.replicate o.length (default : WinS))).length = o.length * 2 by rw [rowL_len, List.length_replicate]; rfl]
  refine VO.op rfl (OpE.alloc rfl hB rfl Tryz.zeroValue99 rfl ?_)
  intro g14
  refine VO.op rfl (OpE.store (i := 1) rfl hB rfl Tryz.sizeOf99 rfl rfl rfl rfl rfl rfl (Nle rfl) trivial ?_)
  refine VO.nil ?_
  refine VC.seq ?_
  refine VC.le _ (Le.pickH [1, 0] rfl rfl) ?_
  refine VC.region ?_
  refine VO.mw ?_
  refine VO.mw ?_
  refine VO.mw ?_
  refine VO.vv (OpV.makeFunc1 rfl rfl) ?_
  refine VO.op rfl (OpE.callH0 rfl hB rfl Tryz.call110 rfl rfl (plan_run hk Tryz.call111 times_does (a := List.replicate o.length default) ⟨by simp, rfl⟩) (List.Perm.refl _) (fun _ _ => trivial) ?_)
  rintro _ _ ⟨_, e1, e2, ⟨hll, rfl⟩, rfl, rfl⟩
  refine VO.le _ (Le.drop 2) ?_
  refine VO.nil ?_
  refine VC.seq ?_
  rw [runA_times]
  refine VC.region ?_
  refine VO.vv (OpV.load_own (i := 0) rfl hB Tryz.isAgg99 rfl rfl rfl (fun h => h)) ?_
  refine VO.mb ?_
  refine VO.mb ?_
  refine VO.nil ?_
  refine VC.ret ?_
  exact Exists.intro _ (And.intro (RetN.two Tryz.results42 (ResN.box (i := 1) rfl rfl (by rw [rowL_len, timesQ_len]; exact Nat.le_refl _) (Nat.le_refl _) (by simp only [maxLen]; omega) (flat_win _) (fun w Z u h => by simp only [Nat.zero_add] at h; exact Rep.rowL (timesQ_len _ _ _ _ _ _).symm h)) (ResN.v rfl)) (by rw [hE, h00]))
end
section
def panL : List PlaceS := [⟨⟨#[99]⟩, ⟨#[99, 97, 112]⟩, 0, 0, 0⟩]
def panP : ProdS := ⟨⟨#[112]⟩, 5, 5, panL⟩
theorem panP_sm : SmP panP := ⟨by decide, by decide, fun i => by
 match i with
 | 0 => decide
 | i + 1 => simp [panP, panL]; decide, fun i => by
 match i with
 | 0 => decide
 | i + 1 => simp [panP, panL]; decide⟩
theorem panP_ok : prodF panP = 0 := by decide +kernel
theorem panP_cnt : cntP panL = [(⟨#[99, 97, 112]⟩, 1)] := by decide +kernel
theorem panP_keys : sKeys [((⟨#[99, 97, 112]⟩ : ByteArray), (1 : Int))] = [⟨#[99, 97, 112]⟩] := by simp [sKeys, bytesOf]
theorem panP_needs : needsR panP = [⟨⟨#[99, 97, 112]⟩, 1⟩] := by
 rw [needsR, if_pos panP_ok, needsL]
 show List.map _ (sKeys (cntP panL)) = _
 rw [panP_cnt, panP_keys]
 simp [panP, panP_cnt, mgetD, mget]
end
section
theorem take_succ_getD {α : Type} {xs : List α} {q : Nat} {d : α} (h : q < xs.length) : xs.take (q + 1) = xs.take q ++ [xs.getD q d] := by
 rw [List.take_succ_eq_append_getElem h]
 simp [h]
end
section
def setsF (s : List ByteArray) (p : List (List ByteArray)) : Int := if setupF s ≠ 0 then setupF s else partsF s.length p
theorem setup_fault {s : List ByteArray} {p : List (List ByteArray)} (hs : SmS s) (hp : SmSS p) :
  SpecN Tryz.prog 166 [avStrs s, avM p] (fun y => y = avI (setsF s p)) := by
 refine SpecN.of_VCN Tryz.func166 rfl Tryz.ntmps166 (Nle rfl) fun w A hB => ?_
 refine VC.sr ?_
 refine VO.mb ?_
 refine VO.nil ?_
 refine VC.seq ?_
 refine VC.sr ?_
 refine VO.mw ?_
 refine VO.op rfl (OpE.call rfl hB rfl Tryz.call233 rfl (SpecN.spec (setup_CheckSetup hs)) ?_)
 rintro _ rfl
 refine VO.mb ?_
 refine VO.nil ?_
 refine VC.sr ?_
 refine VO.mw ?_
 refine VO.vv (OpV.neq rfl rfl rfl) ?_
 refine VO.nil ?_
 refine VC.cond rfl (fun h0b => ?_) (fun h0b => ?_)
 ·have h0 := h0b
  try simp only [qq] at h0
  refine VC.sr ?_
  refine VO.mw ?_
  refine VO.mb ?_
  refine VO.nil ?_
  refine VC.ret ?_
  exact Exists.intro _ (And.intro (RetN.one Tryz.results166 (ResN.v rfl)) (by first | rw [setsF, if_pos h0] | rw [setsF, if_neg (by omega)]))
 ·have h0 := h0b
  try simp only [qq] at h0
  refine VC.skip ?_
  refine VC.sr ?_
  refine VO.mw ?_
  refine VO.vv (OpV.len_im rfl Tryz.underlying82 rfl) ?_
  refine VO.mw ?_
  refine VO.op rfl (OpE.call rfl hB rfl Tryz.call234 rfl (SpecN.spec (setup_CheckParts hp)) ?_)
  rintro _ rfl
  refine VO.mb ?_
  refine VO.nil ?_
  refine VC.ret ?_
  exact Exists.intro _ (And.intro (RetN.one Tryz.results166 (ResN.v rfl)) (by first | rw [setsF, if_pos h0] | rw [setsF, if_neg (by omega)]))
theorem setup_missing {s p : List ByteArray} (hs : SmS s) (hp : SmS p) :
  SpecH Tryz.prog 313 [avStrs s, avStrs p] [] (fun y hp' => ∃ u, y = .v u ∧ hp' = [.row u ((missF s p).length) (1) (strsL (missF s p)) (9)]) := by
 have hl := hp.1
 refine SpecH.of_VC Tryz.func313 rfl Tryz.ntmps313 (Nle rfl) fun w A hB => ?_
 refine VC.sr ?_
 refine VO.mb ?_
 refine VO.nil ?_
 refine VC.sr ?_
 refine VO.mb ?_
 refine VO.nil ?_
 refine VC.seq ?_
 refine VC.sr ?_
 refine VO.mw ?_
 refine VO.vv (OpV.len_im rfl Tryz.underlying82 rfl) ?_
 refine VO.mw ?_
 refine VO.nil ?_
 refine VC.block ?_
 refine VC.le _ (Le.nilRow 1 9) ?_
 refine VC.loopK [(0, _), (8, _), (9, _)] ⟨rfl, rfl, rfl, trivial⟩ ({zz : Value × Nat // zz.2 ≤ p.length}) (fun (iZ : {zz : Value × Nat // zz.2 ≤ p.length}) => match iZ with | ⟨⟨u, q⟩, hq⟩ => [(5, .v u), (10, avI (q : Int))]) (fun (iZ : {zz : Value × Nat // zz.2 ≤ p.length}) => match iZ with | ⟨⟨u, q⟩, hq⟩ => [.row u (missF s (p.take q)).length 1 (strsL (missF s (p.take q))) 9]) (fun (iZ : {zz : Value × Nat // zz.2 ≤ p.length}) => match iZ with | ⟨⟨u, q⟩, hq⟩ => 0) (fun (iZ : {zz : Value × Nat // zz.2 ≤ p.length}) => match iZ with | ⟨⟨u, q⟩, hq⟩ => p.length - q) ⟨(.slice none 0 0, 0), Nat.zero_le _⟩ (Le.mk hB [0] ⟨rfl, rfl, rfl, rfl, rfl, trivial⟩ rfl rfl (Nat.le_refl _)) ?_
 rintro ⟨⟨u, q⟩, hq⟩
 show VC _ _ _ _ ⟨[(5, .v u), (10, avI (q : Int))] ++ [(0, _), (8, _), (9, _)], [.row u (missF s (p.take q)).length 1 (strsL (missF s (p.take q))) 9], 0⟩
 simp only at hq
 refine VC.sr ?_
 refine VO.vv (OpV.lss rfl rfl rfl) ?_
 refine VO.nil ?_
 refine VC.seq ?_
 refine VC.cond rfl (fun aH1b => ?_) (fun aH1b => ?_)
 ·have aH1 := aH1b
  try simp only [qq] at aH1
  refine VC.skip ?_
  refine VC.seq ?_
  refine VC.block ?_
  refine VC.sr ?_
  refine VO.vv (OpV.indexAddr_1 rfl Tryz.underlying82 Tryz.sizeOf9 rfl rfl rfl (by omega)) ?_
  refine VO.vv (OpV.load_at rfl hB OutW.no Tryz.isAgg9 rfl rfl) ?_
  refine VO.mb ?_
  refine VO.nil ?_
  refine VC.sr ?_
  refine VO.mw ?_
  refine VO.mw ?_
  refine VO.op rfl (OpE.call rfl hB rfl Tryz.call86 rfl (SpecN.spec (slices_Contains_str hs.1)) ?_)
  rintro _ rfl
  refine VO.vv (OpV.not rfl rfl) ?_
  refine VO.nil ?_
  refine VC.cond rfl (fun h1b => ?_) (fun h1b => ?_)
  ·have h1 := h1b
   try simp only [qq] at h1
   have e1 := missF_yes (s := s) (p := p) (q := q) (by omega) h1
   have hm1 : (missF s (p.take q)).length ≤ q := Nat.le_trans (List.length_filter_le _ _) (by simp; omega)
   refine VC.region ?_
   refine VO.mw ?_
   refine VO.mw ?_
   refine VO.op rfl (bS rfl hB rfl (by decide) rfl rfl ?_)
   refine VO.op rfl (OpE.append1 (i := 0) rfl hB rfl Tryz.underlying82 (infoOf Tryz.t9 1 (by kernel_rfl) rfl rfl) rfl (by decide) (by decide) rfl rfl rfl rfl (strsL_snoc _ _) (by omega) (fun _ _ => trivial) ?_)
   intro u2
   refine VO.mb ?_
   refine VO.nil ?_
   refine VC.region ?_
   refine VO.vv (OpV.add rfl rfl rfl (by unfold fits; omega)) ?_
   refine VO.mw ?_
   refine VO.nil ?_
   exact Exists.intro (⟨(u2, q + 1), by show _ ≤ _; omega⟩) (And.intro (Le.mk hB [0] ⟨rfl, rfl, rfl, rfl, rfl, trivial⟩ rfl (by dsimp only; first | (rw [e1]; rfl) | (rw [e1, List.length_append]; rfl)) (Nat.le_refl _)) (by first | omega | (show _ < _; omega) | (simp only []; omega)))
  ·have h1 := h1b
   try simp only [qq] at h1
   have e1 := missF_no (s := s) (p := p) (q := q) (by omega) h1
   refine VC.skip ?_
   refine VC.region ?_
   refine VO.vv (OpV.add rfl rfl rfl (by unfold fits; omega)) ?_
   refine VO.mw ?_
   refine VO.nil ?_
   exact Exists.intro (⟨(u, q + 1), by show _ ≤ _; omega⟩) (And.intro (Le.mk hB [0] ⟨rfl, rfl, rfl, rfl, rfl, trivial⟩ rfl (by dsimp only; first | (rw [e1]; rfl) | (rw [e1, List.length_append]; rfl)) (Nat.le_refl _)) (by first | omega | (show _ < _; omega) | (simp only []; omega)))
 ·have aH1 := aH1b
  try simp only [qq] at aH1
  obtain rfl : q = p.length := by omega
  rw [List.take_length]
  refine VC.exit ?_
  refine VC.sr ?_
  refine VO.mw ?_
  refine VO.mb ?_
  refine VO.nil ?_
  refine VC.le ⟨[(4, _)], [_], 0⟩ (Le.pick hB [0] ⟨rfl, trivial⟩ rfl rfl (Nat.le_refl _)) ?_
  refine VC.ret ?_
  exact Exists.intro _ (And.intro (RetV.one Tryz.results313 (ResV.tmp rfl)) (⟨_, rfl, rfl⟩))
theorem setup_missing_N {s p : List ByteArray} (hs : SmS s) (hp : SmS p) : SpecN Tryz.prog 313 [avStrs s, avStrs p] (fun y => y = avStrs (missF s p)) :=
 SpecN.ofRow (setup_missing hs hp) (flat_strs _) fun w Z u h => Rep.strs rfl h
theorem SmS.nil : SmS [] := ⟨by simp, fun i => by simp [List.getD_eq_getElem?_getD]⟩
theorem SmSS.one {p : List ByteArray} (hp : SmS p) : SmSS [p] := ⟨by simp, fun i => by cases i with | zero => exact hp | succ i => exact SmS.nil⟩
end
section
theorem missF_mem {s p : List ByteArray} {x : ByteArray} : x ∈ missF s p ↔ x ∈ p ∧ x ∉ s := by
 unfold missF
 rw [List.mem_filter]
 constructor
 ·rintro ⟨h1, h2⟩; exact ⟨h1, has_not.1 (by simpa using h2)⟩
 ·rintro ⟨h1, h2⟩; exact ⟨h1, by rw [has_not.2 h2]; rfl⟩
theorem missF_nodup {s p : List ByteArray} (h : p.Nodup) : (missF s p).Nodup := h.sublist List.filter_sublist
theorem missF_len (s p : List ByteArray) : (missF s p).length ≤ p.length := List.length_filter_le _ _
section
variable {parts : List ByteArray} {later : List (List ByteArray)}
theorem nextL_mem : ∀ (l s : List ByteArray) (x : ByteArray), x ∈ nextL parts later s l → x ∈ s ∨ x ∈ l
 | [], s, x, h => .inl h
 | y :: l, s, x, h => by
  rcases nextL_mem l _ x h with h1 | h1
  ·rcases List.mem_or_eq_of_mem_set h1 with h2 | h2
   ·exact .inl h2
   ·exact .inr (by simp [h2])
  ·exact .inr (by simp [h1])
theorem nextL_take_succ {s l : List ByteArray} {q : Nat} (h : q < l.length) : nextL parts later s (l.take (q + 1)) = (nextL parts later s (l.take q)).set (slotF (nextL parts later s (l.take q)) parts later).toNat (l.getD q ByteArray.empty) := by
 rw [take_succ_getD (d := ByteArray.empty) h, nextL_snoc]
theorem nextL_fits {s l : List ByteArray} (hf : Fits s parts) (hl : l.Nodup) (hs : ∀ x ∈ l, x ∉ s) : ∀ q, q ≤ l.length → Fits (nextL parts later s (l.take q)) parts
 | 0, _ => by simpa [nextL] using hf
 | q + 1, hq => by
  rw [nextL_take_succ (by omega)]
  refine (nextL_fits hf hl hs q (by omega)).set (fun hc => ?_) _
  have hx : l.getD q ByteArray.empty ∈ l := by simp [show q < l.length by omega]
  rcases nextL_mem _ _ _ hc with h1 | h1
  ·exact hs _ hx h1
  ·obtain ⟨j, hj, e⟩ := List.mem_iff_getElem.1 h1
   have hj' : j < q ∧ j < l.length := by simp at hj; omega
   rw [List.getElem_take] at e
   have hd := List.pairwise_iff_getElem.1 hl j q hj'.2 (by omega) hj'.1
   apply hd
   rw [e]
   simp [show q < l.length by omega]
theorem nextL_not {s l : List ByteArray} (hl : l.Nodup) (hs : ∀ x ∈ l, x ∉ s) {q : Nat} (hq : q < l.length) : l.getD q ByteArray.empty ∉ nextL parts later s (l.take q) := fun hc => by
 have hx : l.getD q ByteArray.empty ∈ l := by simp [hq]
 rcases nextL_mem _ _ _ hc with h1 | h1
 ·exact hs _ hx h1
 ·obtain ⟨j, hj, e⟩ := List.mem_iff_getElem.1 h1
  have hj' : j < q ∧ j < l.length := by simp at hj; omega
  rw [List.getElem_take] at e
  have hd := List.pairwise_iff_getElem.1 hl j q hj'.2 (by omega) hj'.1
  apply hd
  rw [e]
  simp [hq]
end
theorem slotF_of_neg {s parts : List ByteArray} {later : List (List ByteArray)} (h : fidx (fun x => sEq ε x) s < 0) : slotF s parts later = (vic s parts later s.length).1 := by rw [slotF, if_pos h]
theorem slotF_of_pos {s parts : List ByteArray} {later : List (List ByteArray)} (h : 0 ≤ fidx (fun x => sEq ε x) s) : slotF s parts later = fidx (fun x => sEq ε x) s := by rw [slotF, if_neg (by omega)]
theorem keyF_size {x : ByteArray} (h : keyF x = true) : 1 ≤ x.size ∧ x.size ≤ 40 := by
 unfold keyF at h
 simp only [Bool.and_eq_true, decide_eq_true_eq] at h
 exact ⟨h.1.1.1, h.1.1.2⟩
theorem canE_key {l : List ByteArray} {i : Nat} (h : canE l i = 0) : keyF (l.getD i ByteArray.empty) = true := by
 cases hk : keyF (l.getD i ByteArray.empty) with
 | true => rfl
 | false => rw [canE_5 hk] at h; cases h
theorem canE_lt {l : List ByteArray} {i : Nat} (h : canE l i = 0) (h0 : 0 < i) : sLt (l.getD (i - 1) ByteArray.empty) (l.getD i ByteArray.empty) = true := by
 have hk := canE_key h
 cases hs : sLe (l.getD i ByteArray.empty) (l.getD (i - 1) ByteArray.empty) with
 | true => rw [canE_7 hk h0 hs] at h; cases h
 | false => exact sLt_of_not hs
theorem can_sort {l : List ByteArray} (h : ∀ j, j < l.length → canE l j = 0) : SortS l := by
 intro a b hab hb
 induction b with
 | zero => omega
 | succ b ih =>
  have h1 := canE_lt (h (b + 1) hb) (by omega)
  simp only [Nat.add_sub_cancel] at h1
  by_cases e : a = b
  ·subst e; exact h1
  ·exact sLt_trans (ih (by omega) (by omega)) h1
theorem sort_nodup {l : List ByteArray} (h : SortS l) : l.Nodup := by
 rw [List.Nodup, List.pairwise_iff_getElem]
 intro i j hi hj hij e
 have := h i j hij hj
 simp only [List.getD_eq_getElem?_getD, List.getElem?_eq_getElem hi, List.getElem?_eq_getElem hj, Option.getD_some, e] at this
 rw [sLt_irr] at this; cases this
theorem getD_mem {l : List ByteArray} {x : ByteArray} (h : x ∈ l) : ∃ j, j < l.length ∧ l.getD j ByteArray.empty = x := by
 obtain ⟨j, hj, rfl⟩ := List.mem_iff_getElem.1 h
 exact ⟨j, hj, by simp [hj]⟩
theorem size_getD {l : List ByteArray} {m : Nat} (h : ∀ x ∈ l, x.size ≤ m) (i : Nat) : (l.getD i ByteArray.empty).size ≤ m := by
 by_cases hi : i < l.length
 ·have := h _ (List.getElem_mem hi)
  simpa [hi] using this
 ·simp [List.getD_eq_getElem?_getD, List.getElem?_eq_none (by omega : l.length ≤ i)]
structure RightP (n : Nat) (l : List ByteArray) : Prop where
 len : l.length ≤ n
 can : ∀ j, j < l.length → canE l j = 0
theorem RightP.of {n : Int} {m : Nat} (hn : n = m) {p : List (List ByteArray)} (h : partsF n p = 0) {q : Nat} (hq : q < p.length) : RightP m (p.getD q default) := by
 obtain ⟨_, _, h3⟩ := partsF_zero h
 obtain ⟨k1, k2⟩ := partE_zero (h3 q hq)
 exact ⟨by omega, k2⟩
theorem RightP.nil (n : Nat) : RightP n [] := ⟨by simp, fun j hj => by simp at hj⟩
section
variable {n : Nat} {l s : List ByteArray}
theorem RightP.keys (h : RightP n l) : ∀ x ∈ l, 1 ≤ x.size ∧ x.size ≤ 40 := fun x hx => by
 obtain ⟨j, hj, rfl⟩ := getD_mem hx
 exact keyF_size (canE_key (h.can j hj))
theorem RightP.sms (h : RightP n l) (hn : n ≤ 1000000000) : SmS l := ⟨by have := h.len; omega, size_getD fun x hx => by have := h.keys x hx; omega⟩
theorem setup_once (h : setupF s = 0) : ∀ i j, i < j → j < s.length → s.getD i ByteArray.empty = s.getD j ByteArray.empty → s.getD j ByteArray.empty = ε := fun i j hij hj e => by
 have h0 := setupF_zero h j hj
 cases he : sEq (s.getD j ByteArray.empty) ε with
 | true => exact sEq_eq.1 he
 | false =>
  exfalso
  cases hk : keyF (s.getD j ByteArray.empty) with
  | false => rw [setupE_5 he hk] at h0; cases h0
  | true =>
   have hh : has (s.take j) (s.getD j ByteArray.empty) = true := by
    rw [has_iff, ← e]
    have hi : i < (s.take j).length := by simp; omega
    have : (s.take j)[i] = s.getD i ByteArray.empty := by simp [show i < s.length by omega]
    rw [← this]; exact List.getElem_mem hi
   rw [setupE_6 he hk hh] at h0; cases h0
theorem setup_size (h : setupF s = 0) : ∀ x ∈ s, x.size ≤ 40 := fun x hx => by
 obtain ⟨j, hj, rfl⟩ := getD_mem hx
 have h0 := setupF_zero h j hj
 cases he : sEq (s.getD j ByteArray.empty) ε with
 | true => rw [sEq_eq.1 he]; decide
 | false =>
  cases hk : keyF (s.getD j ByteArray.empty) with
  | false => rw [setupE_5 he hk] at h0; cases h0
  | true => exact (keyF_size hk).2
theorem RightP.fits (h : RightP s.length l) (ho : ∀ i j, i < j → j < s.length → s.getD i ByteArray.empty = s.getD j ByteArray.empty → s.getD j ByteArray.empty = ε) : Fits s l :=
 ⟨ho, h.len, fun x hx e => by have := h.keys x hx; rw [e] at this; exact absurd this.1 (by decide), sort_nodup (can_sort h.can)⟩
end
structure Good' (s : List ByteArray) : Prop where
 pos : 0 < s.length
 len : s.length ≤ 100
 once : ∀ i j, i < j → j < s.length → s.getD i ByteArray.empty = s.getD j ByteArray.empty → s.getD j ByteArray.empty = ε
 size : ∀ x ∈ s, x.size ≤ 40
theorem Good'.of {s : List ByteArray} (h : setupF s = 0) : Good' s := ⟨(setupF_len h).1, (setupF_len h).2, setup_once h, setup_size h⟩
theorem Good'.sms {s : List ByteArray} (h : Good' s) : SmS s := ⟨by have := h.len; omega, size_getD fun x hx => by have := h.size x hx; omega⟩
theorem Good'.next {s l : List ByteArray} (h : Good' s) (hl : RightP s.length l) (later : List (List ByteArray)) (q : Nat) (hq : q ≤ (missF s l).length) : Good' (nextL l later s ((missF s l).take q)) := by
 have hf := hl.fits h.once
 have hn := nextL_fits (later := later) hf (missF_nodup hf.pnd) (fun x hx => (missF_mem.1 hx).2) q hq
 refine ⟨by rw [nextL_len]; exact h.pos, by rw [nextL_len]; exact h.len, hn.once, fun x hx => ?_⟩
 rcases nextL_mem _ _ _ hx with h1 | h1
 ·exact h.size x h1
 ·exact (hl.keys x (missF_mem.1 (List.mem_of_mem_take h1)).1).2
theorem Good'.nextF {s l : List ByteArray} (h : Good' s) (hl : RightP s.length l) (later : List (List ByteArray)) : Good' (nextF s l later) := by
 have := h.next hl later (missF s l).length (Nat.le_refl _)
 rwa [List.take_length] at this
theorem nextF_len (s l : List ByteArray) (later : List (List ByteArray)) : (nextF s l later).length = s.length := nextL_len _ _ _ _
def stF (s : List ByteArray) (p : List (List ByteArray)) : Nat → List ByteArray
 | 0 => s
 | q + 1 => nextF (stF s p q) (p.getD q default) (p.drop (q + 1))
def totF (s : List ByteArray) (p : List (List ByteArray)) : Nat → Int
 | 0 => 0
 | q + 1 => totF s p q + (missF (stF s p q) (p.getD q default)).length
theorem stF_len (s : List ByteArray) (p : List (List ByteArray)) : ∀ q, (stF s p q).length = s.length
 | 0 => rfl
 | q + 1 => by rw [stF, nextF_len, stF_len s p q]
theorem stF_good {s : List ByteArray} {p : List (List ByteArray)} (h : Good' s) (hp : ∀ q, q < p.length → RightP s.length (p.getD q default)) : ∀ q, q ≤ p.length → Good' (stF s p q)
 | 0, _ => h
 | q + 1, hq => (stF_good h hp q (by omega)).nextF (by rw [stF_len]; exact hp q (by omega)) _
theorem totF_in {s : List ByteArray} {p : List (List ByteArray)} (hs : s.length ≤ 100) (hp : ∀ q, q < p.length → RightP s.length (p.getD q default)) : ∀ q, q ≤ p.length → 0 ≤ totF s p q ∧ totF s p q ≤ 100 * q
 | 0, _ => by simp [totF]
 | q + 1, hq => by
  have ih := totF_in hs hp q (by omega)
  have h1 := missF_len (stF s p q) (p.getD q default)
  have h2 := (hp q (by omega)).len
  rw [totF]
  omega
theorem totF_mono {s : List ByteArray} {p : List (List ByteArray)} {a b : Nat} (h : a ≤ b) : totF s p a ≤ totF s p b := by
 induction b with
 | zero => rw [show a = 0 by omega]; exact Int.le_refl _
 | succ b ih =>
  by_cases e : a = b + 1
  ·rw [e]; exact Int.le_refl _
  ·have := ih (by omega)
   rw [totF]; omega
def totalF (s : List ByteArray) (p : List (List ByteArray)) (most : Int) : Int := if p.length = 0 then 0 else if most ≤ totF s p p.length then most else totF s p p.length
end
section
theorem slices_IndexFunc_LL {xs : List (List ByteArray)} {F : FuncId} {cs : List AV} {p : List ByteArray → Bool} (hl : xs.length ≤ 1000000000) (hcall : ∀ us w, (callFunc F us).run Tryz.prog w = .ok (.enter F us) w) (hF : ∀ i, i < xs.length → Spec Tryz.prog F ([avStrs (xs.getD i default)] ++ cs) (fun y => y = avB (p (xs.getD i default)))) :
  SpecN Tryz.prog 387 [avM xs, .fn F cs] (fun y => y = avI (fidx p xs)) := by
 refine SpecN.of_VCN Tryz.func387 rfl Tryz.ntmps387 (Nle rfl) fun w A hB => ?_
 refine VC.sr ?_
 refine VO.mb ?_
 refine VO.nil ?_
 refine VC.seq ?_
 refine VC.sr ?_
 refine VO.mw ?_
 refine VO.vv (OpV.len_im rfl Tryz.underlying169 rfl) ?_
 refine VO.mw ?_
 refine VO.nil ?_
 refine VC.block ?_
 refine VC.loopK [(0, _), (1, _), (7, _)] ⟨rfl, rfl, rfl, trivial⟩ ({q : Nat // q ≤ xs.length ∧ ∀ j, j < q → p (xs.getD j default) = false}) (fun (iZ : {q : Nat // q ≤ xs.length ∧ ∀ j, j < q → p (xs.getD j default) = false}) => match iZ with | ⟨q, hq, hn⟩ => [(8, avI (q : Int))]) (fun (iZ : {q : Nat // q ≤ xs.length ∧ ∀ j, j < q → p (xs.getD j default) = false}) => match iZ with | ⟨q, hq, hn⟩ => []) (fun (iZ : {q : Nat // q ≤ xs.length ∧ ∀ j, j < q → p (xs.getD j default) = false}) => match iZ with | ⟨q, hq, hn⟩ => 0) (fun (iZ : {q : Nat // q ≤ xs.length ∧ ∀ j, j < q → p (xs.getD j default) = false}) => match iZ with | ⟨q, hq, hn⟩ => xs.length - q) ⟨0, Nat.zero_le _, fun j hj => absurd hj (Nat.not_lt_zero j)⟩ (Le.mk hB [] ⟨rfl, rfl, rfl, rfl, trivial⟩ rfl rfl (Nat.le_refl _)) ?_
 rintro ⟨q, hq, hn⟩
 show VC _ _ _ _ ⟨[(8, avI (q : Int))] ++ [(0, _), (1, _), (7, _)], [], 0⟩
 refine VC.sr ?_
 refine VO.vv (OpV.lss rfl rfl rfl) ?_
 refine VO.nil ?_
 refine VC.seq ?_
 refine VC.cond rfl (fun aH1b => ?_) (fun aH1b => ?_)
 ·have aH1 := aH1b
  try simp only [qq] at aH1
  refine VC.skip ?_
  refine VC.seq ?_
  refine VC.block ?_
  refine VC.sr ?_
  refine VO.mw ?_
  refine VO.mb ?_
  refine VO.nil ?_
  refine VC.sr ?_
  refine VO.mw ?_
  refine VO.mw ?_
  refine VO.mw ?_
  refine VO.vv (OpV.indexAddr_1 rfl Tryz.underlying169 Tryz.sizeOf82 rfl rfl rfl (by omega)) ?_
  refine VO.vv (OpV.load_at rfl hB OutW.no Tryz.isAgg82 rfl rfl) ?_
  refine VO.op rfl (OpE.callF rfl hB rfl hcall rfl rfl (hF q (by omega)) ?_)
  rintro _ rfl
  refine VO.nil ?_
  refine VC.cond rfl (fun aH2b => ?_) (fun aH2b => ?_)
  ·have aH2 := aH2b
   try simp only [qq] at aH2
   refine VC.sr ?_
   refine VO.mw ?_
   refine VO.mb ?_
   refine VO.nil ?_
   refine VC.ret ?_
   exact Exists.intro _ (And.intro (RetN.one Tryz.results387 (ResN.v rfl)) (by first | (rw [fidx_found (d := default) (q := q) (by omega) hn (by assumption)]) | (rw [fidx_none (d := default) (fun j hj => hn j (by omega))])))
  ·have aH2 := aH2b
   try simp only [qq] at aH2
   refine VC.skip ?_
   refine VC.region ?_
   refine VO.vv (OpV.add rfl rfl rfl (by unfold fits; omega)) ?_
   refine VO.mw ?_
   refine VO.nil ?_
   exact Exists.intro (⟨q + 1, by omega, lt_succ_cases hn (by assumption)⟩) (And.intro (Le.mk hB [] ⟨rfl, rfl, rfl, rfl, trivial⟩ rfl rfl (Nat.le_refl _)) (by first | omega | (show _ < _; omega) | (simp only []; omega)))
 ·have aH1 := aH1b
  try simp only [qq] at aH1
  refine VC.exit ?_
  refine VC.sr ?_
  refine VO.mb ?_
  refine VO.nil ?_
  refine VC.ret ?_
  exact Exists.intro _ (And.intro (RetN.one Tryz.results387 (ResN.v rfl)) (by first | (rw [fidx_found (d := default) (q := q) (by omega) hn (by assumption)]) | (rw [fidx_none (d := default) (fun j hj => hn j (by omega))])))
theorem setup_needed1 {l : List ByteArray} {x : ByteArray} (hl : l.length ≤ 1000000000) :
  SpecN Tryz.prog 388 [avStrs l, .at_ 1 (fun _ => avS x)] (fun y => y = avB (has l x)) := by
 refine SpecN.of_VCN Tryz.func388 rfl Tryz.ntmps388 (Nle rfl) fun w A hB => ?_
 refine VC.sr ?_
 refine VO.mb ?_
 refine VO.nil ?_
 refine VC.sr ?_
 refine VO.mw ?_
 refine VO.vv (OpV.load_at rfl hB OutW.no Tryz.isAgg9 rfl rfl) ?_
 refine VO.op rfl (OpE.call rfl hB rfl Tryz.call86 rfl (SpecN.spec (slices_Contains_str hl)) ?_)
 rintro _ rfl
 refine VO.mb ?_
 refine VO.nil ?_
 refine VC.ret ?_
 exact Exists.intro _ (And.intro (RetN.one Tryz.results388 (ResN.v rfl)) (rfl))
theorem setup_needed {x : ByteArray} {later : List (List ByteArray)} (hp : SmSS later) :
  SpecN Tryz.prog 366 [avS x, avM later] (fun y => y = avI (needF x later)) := by
 have hl := hp.1
 refine SpecN.of_VCN Tryz.func366 rfl Tryz.ntmps366 (Nle rfl) fun w A hB => ?_
 refine VC.sr ?_
 refine VO.op rfl (OpE.box rfl hB rfl rfl rfl ?_)
 intro g2
 refine VO.mb ?_
 refine VO.nil ?_
 refine VC.seq ?_
 refine VC.sr ?_
 refine VO.mw ?_
 refine VO.vv (OpV.makeFunc1 rfl rfl) ?_
 refine VO.op rfl (OpE.callL rfl hB rfl Tryz.call387 (slices_IndexFunc_LL (p := fun l => has l x) hl Tryz.call388 (fun i hi => (setup_needed1 (hp.2 i).1).spec)) (ArgsP.cons (ArgP.ev rfl) (ArgsP.cons (ArgP.fn1 (i := 0) (m := 1) (f := fun _ => avS x) rfl rfl (Nle rfl) (lt1 rfl)) (ArgsP.nil))) ?_)
 rintro _ rfl
 refine VO.mb ?_
 refine VO.nil ?_
 refine VC.sr ?_
 refine VO.mw ?_
 refine VO.vv (OpV.geq rfl rfl rfl) ?_
 refine VO.nil ?_
 refine VC.cond rfl (fun h0b => ?_) (fun h0b => ?_)
 ·have h0 := h0b
  try simp only [qq] at h0
  refine VC.sr ?_
  refine VO.mw ?_
  refine VO.mb ?_
  refine VO.nil ?_
  refine VC.ret ?_
  exact Exists.intro _ (And.intro (RetN.one Tryz.results366 (ResN.v rfl)) (by first | rw [needF, if_pos h0] | rw [needF, if_neg (by omega)]))
 ·have h0 := h0b
  try simp only [qq] at h0
  refine VC.skip ?_
  refine VC.sr ?_
  refine VO.mw ?_
  refine VO.vv (OpV.len_im rfl Tryz.underlying169 rfl) ?_
  refine VO.mb ?_
  refine VO.nil ?_
  refine VC.ret ?_
  exact Exists.intro _ (And.intro (RetN.one Tryz.results366 (ResN.v rfl)) (by first | rw [needF, if_pos h0] | rw [needF, if_neg (by omega)]))
theorem setup_victim {s parts : List ByteArray} {later : List (List ByteArray)} (hs : s.length ≤ 1000000000) (hp : parts.length ≤ 1000000000) (hl : SmSS later) :
  SpecN Tryz.prog 314 [avStrs s, avStrs parts, avM later] (fun y => y = avI (vic s parts later s.length).1) := by
 have hll := hl.1
 refine SpecN.of_VCN Tryz.func314 rfl Tryz.ntmps314 (Nle rfl) fun w A hB => ?_
 refine VC.sr ?_
 refine VO.mb ?_
 refine VO.nil ?_
 refine VC.sr ?_
 refine VO.mb ?_
 refine VO.mb ?_
 refine VO.nil ?_
 refine VC.seq ?_
 refine VC.sr ?_
 refine VO.mw ?_
 refine VO.vv (OpV.len_im rfl Tryz.underlying82 rfl) ?_
 refine VO.mw ?_
 refine VO.nil ?_
 refine VC.block ?_
 refine VC.loopK [(0, _), (1, _), (2, _), (12, _), (13, _)] ⟨rfl, rfl, rfl, rfl, rfl, trivial⟩ ({q : Nat // q ≤ s.length}) (fun (iZ : {q : Nat // q ≤ s.length}) => match iZ with | ⟨q, hq⟩ => [(7, avI (vic s parts later q).1), (8, avI (vic s parts later q).2), (14, avI (q : Int))]) (fun (iZ : {q : Nat // q ≤ s.length}) => match iZ with | ⟨q, hq⟩ => []) (fun (iZ : {q : Nat // q ≤ s.length}) => match iZ with | ⟨q, hq⟩ => 0) (fun (iZ : {q : Nat // q ≤ s.length}) => match iZ with | ⟨q, hq⟩ => s.length - q) ⟨0, Nat.zero_le _⟩ (Le.mk hB [] ⟨rfl, rfl, rfl, rfl, rfl, rfl, rfl, rfl, trivial⟩ rfl rfl (Nat.le_refl _)) ?_
 rintro ⟨q, hq⟩
 show VC _ _ _ _ ⟨[(7, avI (vic s parts later q).1), (8, avI (vic s parts later q).2), (14, avI (q : Int))] ++ [(0, _), (1, _), (2, _), (12, _), (13, _)], [], 0⟩
 refine VC.sr ?_
 refine VO.vv (OpV.lss rfl rfl rfl) ?_
 refine VO.nil ?_
 refine VC.seq ?_
 refine VC.cond rfl (fun aH1b => ?_) (fun aH1b => ?_)
 ·have aH1 := aH1b
  try simp only [qq] at aH1
  refine VC.skip ?_
  refine VC.seq ?_
  refine VC.block ?_
  refine VC.sr ?_
  refine VO.mw ?_
  refine VO.vv (OpV.indexAddr_1 rfl Tryz.underlying82 Tryz.sizeOf9 rfl rfl rfl (by omega)) ?_
  refine VO.vv (OpV.load_at rfl hB OutW.no Tryz.isAgg9 rfl rfl) ?_
  refine VO.mb ?_
  refine VO.mb ?_
  refine VO.nil ?_
  refine VC.seq ?_
  refine VC.sr ?_
  refine VO.mw ?_
  refine VO.mw ?_
  refine VO.op rfl (OpE.call rfl hB rfl Tryz.call86 rfl (SpecN.spec (slices_Contains_str hp)) ?_)
  rintro _ rfl
  refine VO.nil ?_
  refine VC.cond rfl (fun h1b => ?_) (fun h1b => ?_)
  ·have h1 := h1b
   try simp only [qq] at h1
   refine VC.exit ?_
   refine VC.region ?_
   refine VO.vv (OpV.add rfl rfl rfl (by unfold fits; omega)) ?_
   refine VO.mw ?_
   refine VO.nil ?_
   exact Exists.intro (⟨q + 1, by omega⟩) (And.intro (Le.mk hB [] ⟨(by dsimp only; first | (rw [vic_has h1]; rfl) | (rw [vic_new h1 (.inl (by assumption))]; rfl) | (rw [vic_new h1 (.inr ⟨by assumption, not_true_false h2b⟩)]; rfl) | (rw [vic_old (s := s) (parts := parts) (later := later) (q := q) h1 (by rintro (h8 | ⟨h8, h9⟩); exact absurd h8 (by omega); exact absurd (h9.symm.trans (not_false_true h2b)) Bool.false_ne_true)]; rfl) | (rw [vic_old (s := s) (parts := parts) (later := later) (q := q) h1 (by rintro (h8 | ⟨h8, h9⟩); omega; omega)]; rfl)), (by dsimp only; first | (rw [vic_has h1]; rfl) | (rw [vic_new h1 (.inl (by assumption))]; rfl) | (rw [vic_new h1 (.inr ⟨by assumption, not_true_false h2b⟩)]; rfl) | (rw [vic_old (s := s) (parts := parts) (later := later) (q := q) h1 (by rintro (h8 | ⟨h8, h9⟩); exact absurd h8 (by omega); exact absurd (h9.symm.trans (not_false_true h2b)) Bool.false_ne_true)]; rfl) | (rw [vic_old (s := s) (parts := parts) (later := later) (q := q) h1 (by rintro (h8 | ⟨h8, h9⟩); omega; omega)]; rfl)), rfl, rfl, rfl, rfl, rfl, rfl, trivial⟩ rfl rfl (Nat.le_refl _)) (by first | omega | (show _ < _; omega) | (simp only []; omega)))
  ·have h1 := h1b
   try simp only [qq] at h1
   refine VC.skip ?_
   refine VC.sr ?_
   refine VO.mw ?_
   refine VO.mw ?_
   refine VO.op rfl (OpE.call rfl hB rfl Tryz.call366 rfl (SpecN.spec (setup_needed hl)) ?_)
   rintro _ rfl
   refine VO.mb ?_
   refine VO.nil ?_
   refine VC.sr ?_
   refine VO.mw ?_
   refine VO.mw ?_
   refine VO.vv (OpV.gtr rfl rfl rfl) ?_
   refine VO.mw ?_
   refine VO.opG rfl rfl rfl rfl (fun aK2b => ?_) (fun aK2b => ?_)
   ·replace aK2b : _ = false := aK2b
    have aK2 := aK2b
    try simp only [qq] at aK2
    refine OpE.val (W := NoB) (OpV.move (.inl rfl) rfl) rfl ?_
    refine VO.opY rfl rfl rfl rfl aK2b ?_
    refine OpE.val (W := NoB) (OpV.move (.inl rfl) rfl) rfl ?_
    refine VO.opY rfl rfl rfl rfl aK2b ?_
    refine OpE.val (W := NoB) (OpV.eql rfl rfl rfl) rfl ?_
    refine VO.opY rfl rfl rfl rfl aK2b ?_
    refine OpE.val (W := NoB) (OpV.move (.inl rfl) rfl) rfl ?_
    refine VO.opG rfl rfl rfl rfl (fun aK3b => ?_) (fun aK3b => ?_)
    ·replace aK3b : _ = true := aK3b
     have aK3 := aK3b
     try simp only [qq] at aK3
     refine OpE.val (W := NoB) (OpV.move (.inl rfl) rfl) rfl ?_
     refine VO.opY rfl rfl rfl rfl aK3b ?_
     refine OpE.val (W := NoB) (OpV.move (.inl rfl) rfl) rfl ?_
     refine VO.opY rfl rfl rfl rfl aK3b ?_
     refine OpE.val (W := NoB) (OpV.move (.inl rfl) rfl) rfl ?_
     refine VO.opY rfl rfl rfl rfl aK3b ?_
     refine OpE.val (W := NoB) (OpV.indexAddr_1 rfl Tryz.underlying82 Tryz.sizeOf9 rfl rfl (Int.toNat_of_nonneg (vic_tie (by assumption)).1).symm (by have h7 := vic_tie (s := s) (parts := parts) (by assumption); omega)) rfl ?_
     refine VO.opY rfl rfl rfl rfl aK3b ?_
     refine OpE.val (W := NoB) (OpV.load_at rfl hB OutW.no Tryz.isAgg9 rfl rfl) rfl ?_
     refine VO.opY rfl rfl rfl rfl aK3b ?_
     refine OpE.val (W := NoB) (OpV.sgtr rfl rfl rfl) rfl ?_
     refine VO.opY rfl rfl rfl rfl aK2b ?_
     refine OpE.val (W := NoB) (OpV.pickT rfl rfl rfl rfl aK3b) rfl ?_
     refine VO.vv (OpV.pickF rfl rfl rfl rfl aK2b) ?_
     refine VO.nil ?_
     refine VC.cond rfl (fun h2b => ?_) (fun h2b => ?_)
     ·have h2 := h2b
      try simp only [qq] at h2
      refine VC.region ?_
      refine VO.mw ?_
      refine VO.mw ?_
      refine VO.mb ?_
      refine VO.mb ?_
      refine VO.nil ?_
      refine VC.region ?_
      refine VO.vv (OpV.add rfl rfl rfl (by unfold fits; omega)) ?_
      refine VO.mw ?_
      refine VO.nil ?_
      exact Exists.intro (⟨q + 1, by omega⟩) (And.intro (Le.mk hB [] ⟨(by dsimp only; first | (rw [vic_has h1]; rfl) | (rw [vic_new h1 (.inl (by assumption))]; rfl) | (rw [vic_new h1 (.inr ⟨by assumption, not_true_false h2b⟩)]; rfl) | (rw [vic_old (s := s) (parts := parts) (later := later) (q := q) h1 (by rintro (h8 | ⟨h8, h9⟩); exact absurd h8 (by omega); exact absurd (h9.symm.trans (not_false_true h2b)) Bool.false_ne_true)]; rfl) | (rw [vic_old (s := s) (parts := parts) (later := later) (q := q) h1 (by rintro (h8 | ⟨h8, h9⟩); omega; omega)]; rfl)), (by dsimp only; first | (rw [vic_has h1]; rfl) | (rw [vic_new h1 (.inl (by assumption))]; rfl) | (rw [vic_new h1 (.inr ⟨by assumption, not_true_false h2b⟩)]; rfl) | (rw [vic_old (s := s) (parts := parts) (later := later) (q := q) h1 (by rintro (h8 | ⟨h8, h9⟩); exact absurd h8 (by omega); exact absurd (h9.symm.trans (not_false_true h2b)) Bool.false_ne_true)]; rfl) | (rw [vic_old (s := s) (parts := parts) (later := later) (q := q) h1 (by rintro (h8 | ⟨h8, h9⟩); omega; omega)]; rfl)), rfl, rfl, rfl, rfl, rfl, rfl, trivial⟩ rfl rfl (Nat.le_refl _)) (by first | omega | (show _ < _; omega) | (simp only []; omega)))
     ·have h2 := h2b
      try simp only [qq] at h2
      refine VC.skip ?_
      refine VC.region ?_
      refine VO.vv (OpV.add rfl rfl rfl (by unfold fits; omega)) ?_
      refine VO.mw ?_
      refine VO.nil ?_
      exact Exists.intro (⟨q + 1, by omega⟩) (And.intro (Le.mk hB [] ⟨(by dsimp only; first | (rw [vic_has h1]; rfl) | (rw [vic_new h1 (.inl (by assumption))]; rfl) | (rw [vic_new h1 (.inr ⟨by assumption, not_true_false h2b⟩)]; rfl) | (rw [vic_old (s := s) (parts := parts) (later := later) (q := q) h1 (by rintro (h8 | ⟨h8, h9⟩); exact absurd h8 (by omega); exact absurd (h9.symm.trans (not_false_true h2b)) Bool.false_ne_true)]; rfl) | (rw [vic_old (s := s) (parts := parts) (later := later) (q := q) h1 (by rintro (h8 | ⟨h8, h9⟩); omega; omega)]; rfl)), (by dsimp only; first | (rw [vic_has h1]; rfl) | (rw [vic_new h1 (.inl (by assumption))]; rfl) | (rw [vic_new h1 (.inr ⟨by assumption, not_true_false h2b⟩)]; rfl) | (rw [vic_old (s := s) (parts := parts) (later := later) (q := q) h1 (by rintro (h8 | ⟨h8, h9⟩); exact absurd h8 (by omega); exact absurd (h9.symm.trans (not_false_true h2b)) Bool.false_ne_true)]; rfl) | (rw [vic_old (s := s) (parts := parts) (later := later) (q := q) h1 (by rintro (h8 | ⟨h8, h9⟩); omega; omega)]; rfl)), rfl, rfl, rfl, rfl, rfl, rfl, trivial⟩ rfl rfl (Nat.le_refl _)) (by first | omega | (show _ < _; omega) | (simp only []; omega)))
    ·replace aK3b : _ = false := aK3b
     have aK3 := aK3b
     try simp only [qq] at aK3
     refine VO.opX rfl rfl rfl rfl aK3b ?_
     refine VO.opX rfl rfl rfl rfl aK3b ?_
     refine VO.opX rfl rfl rfl rfl aK3b ?_
     refine VO.opX rfl rfl rfl rfl aK3b ?_
     refine VO.opX rfl rfl rfl rfl aK3b ?_
     refine VO.opY rfl rfl rfl rfl aK2b ?_
     refine OpE.val (W := NoB) (OpV.pickF rfl rfl rfl rfl aK3b) rfl ?_
     refine VO.vv (OpV.pickF rfl rfl rfl rfl aK2b) ?_
     refine VO.nil ?_
     refine VC.condF rfl rfl ?_
     refine VC.skip ?_
     refine VC.region ?_
     refine VO.vv (OpV.add rfl rfl rfl (by unfold fits; omega)) ?_
     refine VO.mw ?_
     refine VO.nil ?_
     exact Exists.intro (⟨q + 1, by omega⟩) (And.intro (Le.mk hB [] ⟨(by dsimp only; first | (rw [vic_has h1]; rfl) | (rw [vic_new h1 (.inl (by assumption))]; rfl) | (rw [vic_new h1 (.inr ⟨by assumption, not_true_false h2b⟩)]; rfl) | (rw [vic_old (s := s) (parts := parts) (later := later) (q := q) h1 (by rintro (h8 | ⟨h8, h9⟩); exact absurd h8 (by omega); exact absurd (h9.symm.trans (not_false_true h2b)) Bool.false_ne_true)]; rfl) | (rw [vic_old (s := s) (parts := parts) (later := later) (q := q) h1 (by rintro (h8 | ⟨h8, h9⟩); omega; omega)]; rfl)), (by dsimp only; first | (rw [vic_has h1]; rfl) | (rw [vic_new h1 (.inl (by assumption))]; rfl) | (rw [vic_new h1 (.inr ⟨by assumption, not_true_false h2b⟩)]; rfl) | (rw [vic_old (s := s) (parts := parts) (later := later) (q := q) h1 (by rintro (h8 | ⟨h8, h9⟩); exact absurd h8 (by omega); exact absurd (h9.symm.trans (not_false_true h2b)) Bool.false_ne_true)]; rfl) | (rw [vic_old (s := s) (parts := parts) (later := later) (q := q) h1 (by rintro (h8 | ⟨h8, h9⟩); omega; omega)]; rfl)), rfl, rfl, rfl, rfl, rfl, rfl, trivial⟩ rfl rfl (Nat.le_refl _)) (by first | omega | (show _ < _; omega) | (simp only []; omega)))
   ·replace aK2b : _ = true := aK2b
    have aK2 := aK2b
    try simp only [qq] at aK2
    refine VO.opX rfl rfl rfl rfl aK2b ?_
    refine VO.opX rfl rfl rfl rfl aK2b ?_
    refine VO.opX rfl rfl rfl rfl aK2b ?_
    refine VO.opU rfl rfl rfl rfl ?_
    refine VO.opU rfl rfl rfl rfl ?_
    refine VO.opU rfl rfl rfl rfl ?_
    refine VO.opU rfl rfl rfl rfl ?_
    refine VO.opU rfl rfl rfl rfl ?_
    refine VO.opU rfl rfl rfl rfl ?_
    refine VO.opX rfl rfl rfl rfl aK2b ?_
    refine VO.vv (OpV.pickT rfl rfl rfl rfl aK2b) ?_
    refine VO.nil ?_
    refine VC.condT rfl rfl ?_
    refine VC.region ?_
    refine VO.mw ?_
    refine VO.mw ?_
    refine VO.mb ?_
    refine VO.mb ?_
    refine VO.nil ?_
    refine VC.region ?_
    refine VO.vv (OpV.add rfl rfl rfl (by unfold fits; omega)) ?_
    refine VO.mw ?_
    refine VO.nil ?_
    exact Exists.intro (⟨q + 1, by omega⟩) (And.intro (Le.mk hB [] ⟨(by dsimp only; first | (rw [vic_has h1]; rfl) | (rw [vic_new h1 (.inl (by assumption))]; rfl) | (rw [vic_new h1 (.inr ⟨by assumption, not_true_false h2b⟩)]; rfl) | (rw [vic_old (s := s) (parts := parts) (later := later) (q := q) h1 (by rintro (h8 | ⟨h8, h9⟩); exact absurd h8 (by omega); exact absurd (h9.symm.trans (not_false_true h2b)) Bool.false_ne_true)]; rfl) | (rw [vic_old (s := s) (parts := parts) (later := later) (q := q) h1 (by rintro (h8 | ⟨h8, h9⟩); omega; omega)]; rfl)), (by dsimp only; first | (rw [vic_has h1]; rfl) | (rw [vic_new h1 (.inl (by assumption))]; rfl) | (rw [vic_new h1 (.inr ⟨by assumption, not_true_false h2b⟩)]; rfl) | (rw [vic_old (s := s) (parts := parts) (later := later) (q := q) h1 (by rintro (h8 | ⟨h8, h9⟩); exact absurd h8 (by omega); exact absurd (h9.symm.trans (not_false_true h2b)) Bool.false_ne_true)]; rfl) | (rw [vic_old (s := s) (parts := parts) (later := later) (q := q) h1 (by rintro (h8 | ⟨h8, h9⟩); omega; omega)]; rfl)), rfl, rfl, rfl, rfl, rfl, rfl, trivial⟩ rfl rfl (Nat.le_refl _)) (by first | omega | (show _ < _; omega) | (simp only []; omega)))
 ·have aH1 := aH1b
  try simp only [qq] at aH1
  refine VC.exit ?_
  refine VC.sr ?_
  refine VO.mw ?_
  refine VO.mb ?_
  refine VO.nil ?_
  refine VC.ret ?_
  exact Exists.intro _ (And.intro (RetN.one Tryz.results314 (ResN.v rfl)) (by rw [show q = s.length by omega]))
end
section
theorem setup_next {s parts : List ByteArray} {later : List (List ByteArray)} {u : Value} (hg : Good' s) (hp : RightP s.length parts) (hl : SmSS later) :
  SpecH Tryz.prog 236 [.v u, avStrs parts, avM later] [.row u s.length 1 (strsL s) 9] (fun y hp' => y = avI (missF s parts).length ∧ hp' = [.row u s.length 1 (strsL (nextF s parts later)) 9]) := by
 have hls := hg.len
 have hlp := hp.len
 have hps := hp.sms (by omega)
 have hml := missF_len s parts
 have hf := hp.fits hg.once
 have hnd := missF_nodup (s := s) hf.pnd
 have hns : ∀ x ∈ missF s parts, x ∉ s := fun x hx => (missF_mem.1 hx).2
 refine SpecH.of_VC Tryz.func236 rfl Tryz.ntmps236 (Nle rfl) fun w A hB => ?_
 refine VC.sr ?_
 refine VO.mb ?_
 refine VO.nil ?_
 refine VC.sr ?_
 refine VO.mw ?_
 refine VO.mw ?_
 refine VO.op rfl (OpE.callL rfl hB rfl Tryz.call313 (setup_missing_N hg.sms hps) (ArgsP.cons (ArgP.rowS (i := 0) rfl rfl rfl) (ArgsP.cons (ArgP.ev rfl) (ArgsP.nil))) ?_)
 rintro _ rfl
 refine VO.mb ?_
 refine VO.nil ?_
 refine VC.seq ?_
 refine VC.sr ?_
 refine VO.mw ?_
 refine VO.vv (OpV.len_im rfl Tryz.underlying82 rfl) ?_
 refine VO.mw ?_
 refine VO.nil ?_
 refine VC.block ?_
 refine VC.loopK [(0, _), (1, _), (2, _), (7, _), (14, _), (15, _)] ⟨rfl, rfl, rfl, rfl, rfl, rfl, trivial⟩ ({q : Nat // q ≤ (missF s parts).length}) (fun (iZ : {q : Nat // q ≤ (missF s parts).length}) => match iZ with | ⟨q, hq⟩ => [(16, avI (q : Int))]) (fun (iZ : {q : Nat // q ≤ (missF s parts).length}) => match iZ with | ⟨q, hq⟩ => [.row u s.length 1 (strsL (nextL parts later s ((missF s parts).take q))) 9]) (fun (iZ : {q : Nat // q ≤ (missF s parts).length}) => match iZ with | ⟨q, hq⟩ => 0) (fun (iZ : {q : Nat // q ≤ (missF s parts).length}) => match iZ with | ⟨q, hq⟩ => (missF s parts).length - q) ⟨0, Nat.zero_le _⟩ (Le.mk hB [0] ⟨rfl, rfl, rfl, rfl, rfl, rfl, rfl, trivial⟩ rfl rfl (Nat.le_refl _)) ?_
 rintro ⟨q, hq⟩
 show VC _ _ _ _ ⟨[(16, avI (q : Int))] ++ [(0, _), (1, _), (2, _), (7, _), (14, _), (15, _)], [.row u s.length 1 (strsL (nextL parts later s ((missF s parts).take q))) 9], 0⟩
 refine VC.sr ?_
 refine VO.vv (OpV.lss rfl rfl rfl) ?_
 refine VO.nil ?_
 refine VC.seq ?_
 refine VC.cond rfl (fun aH1b => ?_) (fun aH1b => ?_)
 ·have aH1 := aH1b
  try simp only [qq] at aH1
  have hq' : q < (missF s parts).length := by omega
  have hcur := hg.next hp later q (by omega)
  have hcl : (nextL parts later s ((missF s parts).take q)).length = s.length := nextL_len _ _ _ _
  have hx := nextL_not (parts := parts) (later := later) hnd hns hq'
  have hxp : (missF s parts).getD q ByteArray.empty ∈ parts := (missF_mem.1 (by simp [hq'] : (missF s parts).getD q ByteArray.empty ∈ missF s parts)).1
  obtain ⟨k1, k2, k3⟩ := slotF_in (later := later) (nextL_fits (later := later) hf hnd hns q (by omega)) hxp hx
  rw [hcl] at k2
  refine VC.asBox (i := 0) rfl (by omega) (fun g cap hu hcap hmx => ?_)
  subst hu
  refine VC.skip ?_
  refine VC.seq ?_
  refine VC.block ?_
  refine VC.sr ?_
  refine VO.vv (OpV.indexAddr_1 rfl Tryz.underlying82 Tryz.sizeOf9 rfl rfl rfl (by omega)) ?_
  refine VO.vv (OpV.load_at rfl hB OutW.no Tryz.isAgg9 rfl rfl) ?_
  refine VO.mb ?_
  refine VO.nil ?_
  refine VC.sr ?_
  refine VO.mw ?_
  refine VO.op rfl (OpE.callL rfl hB rfl Tryz.call170 (slices_Index_str (by rw [hcl]; omega)) (ArgsP.cons (ArgP.boxS (i := 0) rfl rfl hcl.symm hcap hmx) (ArgsP.cons (ArgP.ev rfl) (ArgsP.nil))) ?_)
  rintro _ rfl
  refine VO.mb ?_
  refine VO.nil ?_
  refine VC.seq ?_
  refine VC.sr ?_
  refine VO.mw ?_
  refine VO.vv (OpV.lss rfl rfl rfl) ?_
  refine VO.nil ?_
  refine VC.cond rfl (fun h1b => ?_) (fun h1b => ?_)
  ·have h1 := h1b
   try simp only [qq] at h1
   have hsl := slotF_of_neg (parts := parts) (later := later) h1
   rw [hsl] at k1 k2 k3
   refine VC.region ?_
   refine VO.mw ?_
   refine VO.mw ?_
   refine VO.mw ?_
   refine VO.op rfl (OpE.callL rfl hB rfl Tryz.call314 (setup_victim (by rw [hcl]; omega) hps.1 hl) (ArgsP.cons (ArgP.boxS (i := 0) rfl rfl hcl.symm hcap hmx) (ArgsP.cons (ArgP.ev rfl) (ArgsP.cons (ArgP.ev rfl) (ArgsP.nil)))) ?_)
   rintro _ rfl
   refine VO.mb ?_
   refine VO.nil ?_
   refine VC.region ?_
   refine VO.mw ?_
   refine VO.mw ?_
   refine VO.mw ?_
   refine VO.vv (OpV.indexAddr_o rfl Tryz.underlying82 Tryz.sizeOf9 rfl rfl (Int.toNat_of_nonneg k1).symm (by omega)) ?_
   refine VO.op rfl (OpE.store1 (i := 0) rfl hB rfl Tryz.sizeOf9 rfl rfl rfl rfl rfl rfl (by rw [strsL_len]; omega) (strsL_set _ _ _) trivial ?_)
   refine VO.nil ?_
   refine VC.le _ (Le.boxRow (i := 0) (n := s.length) (sz := 1) (cap := cap) rfl (by rw [strsL_len, List.length_set]; omega) hcap hmx) ?_
   have e1 := nextL_take_succ (parts := parts) (later := later) (s := s) hq'
   rw [hsl] at e1
   refine VC.region ?_
   refine VO.vv (OpV.add rfl rfl rfl (by unfold fits; omega)) ?_
   refine VO.mw ?_
   refine VO.nil ?_
   exact Exists.intro (⟨q + 1, by omega⟩) (And.intro (Le.mk hB [0] ⟨rfl, rfl, rfl, rfl, rfl, rfl, rfl, trivial⟩ rfl (by dsimp only; rw [e1]; first | rfl | (rw [hcl]; rfl)) (Nat.le_refl _)) (by first | omega | (show _ < _; omega) | (simp only []; omega)))
  ·have h1 := h1b
   try simp only [qq] at h1
   have hsl := slotF_of_pos (parts := parts) (later := later) h1
   rw [hsl] at k1 k2 k3
   refine VC.skip ?_
   refine VC.region ?_
   refine VO.mw ?_
   refine VO.mw ?_
   refine VO.mw ?_
   refine VO.vv (OpV.indexAddr_o rfl Tryz.underlying82 Tryz.sizeOf9 rfl rfl (Int.toNat_of_nonneg k1).symm (by omega)) ?_
   refine VO.op rfl (OpE.store1 (i := 0) rfl hB rfl Tryz.sizeOf9 rfl rfl rfl rfl rfl rfl (by rw [strsL_len]; omega) (strsL_set _ _ _) trivial ?_)
   refine VO.nil ?_
   refine VC.le _ (Le.boxRow (i := 0) (n := s.length) (sz := 1) (cap := cap) rfl (by rw [strsL_len, List.length_set]; omega) hcap hmx) ?_
   have e1 := nextL_take_succ (parts := parts) (later := later) (s := s) hq'
   rw [hsl] at e1
   refine VC.region ?_
   refine VO.vv (OpV.add rfl rfl rfl (by unfold fits; omega)) ?_
   refine VO.mw ?_
   refine VO.nil ?_
   exact Exists.intro (⟨q + 1, by omega⟩) (And.intro (Le.mk hB [0] ⟨rfl, rfl, rfl, rfl, rfl, rfl, rfl, trivial⟩ rfl (by dsimp only; rw [e1]; first | rfl | (rw [hcl]; rfl)) (Nat.le_refl _)) (by first | omega | (show _ < _; omega) | (simp only []; omega)))
 ·have aH1 := aH1b
  try simp only [qq] at aH1
  obtain rfl : q = (missF s parts).length := by omega
  refine VC.exit ?_
  refine VC.sr ?_
  refine VO.mw ?_
  refine VO.vv (OpV.len_im rfl Tryz.underlying82 rfl) ?_
  refine VO.mb ?_
  refine VO.nil ?_
  refine VC.ret ?_
  exact Exists.intro _ (And.intro (RetV.one Tryz.results236 (ResV.tmp rfl)) (⟨rfl, by rw [nextF, List.take_length]; rfl⟩))
theorem SmSS.drop {p : List (List ByteArray)} (h : SmSS p) (k : Nat) : SmSS (p.drop k) := ⟨by have := h.1; simp; omega, fun i => by
 have : (p.drop k).getD i default = p.getD (k + i) default := by simp [List.getD_eq_getElem?_getD]
 rw [this]; exact h.2 _⟩
theorem SmSS.take {p : List (List ByteArray)} (h : SmSS p) (k : Nat) : SmSS (p.take k) := ⟨by have := h.1; simp; omega, fun i => by
 by_cases hi : i < k
 ·have : (p.take k).getD i default = p.getD i default := by simp [List.getD_eq_getElem?_getD, List.getElem?_take, hi]
  rw [this]; exact h.2 _
 ·have : (p.take k).getD i default = default := by simp [List.getD_eq_getElem?_getD, List.getElem?_take, hi]
  rw [this]; exact SmS.nil⟩
theorem setup_total {s : List ByteArray} {p : List (List ByteArray)} {most : Int} (hg : Good' s) (hp : ∀ q, q < p.length → RightP s.length (p.getD q default)) (hl : SmSS p) (hl2 : p.length ≤ 200) (hmost : -1000000 ≤ most ∧ most ≤ 1000000) :
  SpecN Tryz.prog 167 [avStrs s, avM p, avI most] (fun y => y = avI (totalF s p most)) := by
 have hls := hg.len
 refine SpecN.of_VCN Tryz.func167 rfl Tryz.ntmps167 (Nle rfl) fun w A hB => ?_
 refine VC.sr ?_
 refine VO.mb ?_
 refine VO.nil ?_
 refine VC.sr ?_
 refine VO.mw ?_
 refine VO.op rfl (OpE.callR rfl hB rfl Tryz.call235 (slices_CloneS_R (by omega)) (ArgsP.cons (ArgP.ev rfl) (ArgsP.nil)) ?_)
 intro u
 refine VO.mb ?_
 refine VO.nil ?_
 refine VC.sr ?_
 refine VO.mb ?_
 refine VO.nil ?_
 refine VC.seq ?_
 refine VC.sr ?_
 refine VO.mw ?_
 refine VO.vv (OpV.len_im rfl Tryz.underlying169 rfl) ?_
 refine VO.mw ?_
 refine VO.nil ?_
 refine VC.block ?_
 refine VC.loopK [(0, _), (1, _), (2, _), (12, _), (13, _)] ⟨rfl, rfl, rfl, rfl, rfl, trivial⟩ ({q : Nat // q ≤ p.length ∧ (q = 0 ∨ totF s p q < most)}) (fun (iZ : {q : Nat // q ≤ p.length ∧ (q = 0 ∨ totF s p q < most)}) => match iZ with | ⟨q, hq, hlt⟩ => [(7, avI (totF s p q)), (14, avI (q : Int))]) (fun (iZ : {q : Nat // q ≤ p.length ∧ (q = 0 ∨ totF s p q < most)}) => match iZ with | ⟨q, hq, hlt⟩ => [.row u (stF s p q).length 1 (strsL (stF s p q)) 9]) (fun (iZ : {q : Nat // q ≤ p.length ∧ (q = 0 ∨ totF s p q < most)}) => match iZ with | ⟨q, hq, hlt⟩ => 0) (fun (iZ : {q : Nat // q ≤ p.length ∧ (q = 0 ∨ totF s p q < most)}) => match iZ with | ⟨q, hq, hlt⟩ => p.length - q) ⟨0, Nat.zero_le _, .inl rfl⟩ (Le.mk hB [0] ⟨rfl, rfl, rfl, rfl, rfl, rfl, rfl, trivial⟩ rfl rfl (Nat.le_refl _)) ?_
 rintro ⟨q, hq, hlt⟩
 show VC _ _ _ _ ⟨[(7, avI (totF s p q)), (14, avI (q : Int))] ++ [(0, _), (1, _), (2, _), (12, _), (13, _)], [.row u (stF s p q).length 1 (strsL (stF s p q)) 9], 0⟩
 refine VC.sr ?_
 refine VO.vv (OpV.lss rfl rfl rfl) ?_
 refine VO.nil ?_
 refine VC.seq ?_
 refine VC.cond rfl (fun aH1b => ?_) (fun aH1b => ?_)
 ·have aH1 := aH1b
  try simp only [qq] at aH1
  have hst := stF_good hg hp q (by omega)
  have hsl := stF_len s p q
  have hti := totF_in hls hp q (by omega)
  have hms := missF_len (stF s p q) (p.getD q default)
  have hpl := (hp q (by omega)).len
  refine VC.skip ?_
  refine VC.seq ?_
  refine VC.block ?_
  refine VC.sr ?_
  refine VO.mw ?_
  refine VO.vv (OpV.indexAddr_1 rfl Tryz.underlying169 Tryz.sizeOf82 rfl rfl rfl (by omega)) ?_
  refine VO.vv (OpV.load_at rfl hB OutW.no Tryz.isAgg82 rfl rfl) ?_
  refine VO.mb ?_
  refine VO.mb ?_
  refine VO.nil ?_
  refine VC.sr ?_
  refine VO.mw ?_
  refine VO.mw ?_
  refine VO.mw ?_
  refine VO.mw ?_
  refine VO.mw ?_
  refine VO.vv (OpV.add rfl rfl rfl (by unfold fits; omega)) ?_
  refine VO.vv (OpV.slice_M (l := q + 1) rfl Tryz.underlying169 Tryz.sizeOf82 rfl ⟨_, _, rfl, (by omega)⟩ rfl (by omega) (by omega)) ?_
  refine VO.op rfl (OpE.callH0 rfl hB rfl Tryz.call236 rfl rfl (setup_next hst (by rw [hsl]; exact hp q (by omega)) ((hl.take _).drop _)) (List.Perm.refl _) (fun _ _ => trivial) ?_)
  rintro _ _ ⟨rfl, rfl⟩
  refine VO.vv (OpV.add rfl rfl rfl (by unfold fits; omega)) ?_
  refine VO.mb ?_
  refine VO.nil ?_
  refine VC.sr ?_
  refine VO.mw ?_
  refine VO.mw ?_
  refine VO.vv (OpV.geq rfl rfl rfl) ?_
  refine VO.nil ?_
  refine VC.cond rfl (fun h1b => ?_) (fun h1b => ?_)
  ·have h1 := h1b
   try simp only [qq] at h1
   have hmono := totF_mono (s := s) (p := p) (a := q + 1) (b := p.length) (by omega)
   have h1' : most ≤ totF s p (q + 1) := h1
   refine VC.sr ?_
   refine VO.mw ?_
   refine VO.mb ?_
   refine VO.nil ?_
   refine VC.ret ?_
   exact Exists.intro _ (And.intro (RetN.one Tryz.results167 (ResN.v rfl)) (by rw [totalF, if_neg (by omega), if_pos (by omega)]))
  ·have h1 := h1b
   try simp only [qq] at h1
   refine VC.skip ?_
   refine VC.region ?_
   refine VO.vv (OpV.add rfl rfl rfl (by unfold fits; omega)) ?_
   refine VO.mw ?_
   refine VO.nil ?_
   exact Exists.intro (⟨q + 1, by omega, .inr h1⟩) (And.intro (Le.mk hB [0] ⟨rfl, rfl, rfl, rfl, rfl, rfl, rfl, trivial⟩ rfl (by dsimp only; rw [List.take_length, show (stF s p (q + 1)).length = (stF s p q).length by rw [stF_len, stF_len]]; rfl) (Nat.le_refl _)) (by first | omega | (show _ < _; omega) | (simp only []; omega)))
 ·have aH1 := aH1b
  try simp only [qq] at aH1
  obtain rfl : q = p.length := by omega
  refine VC.exit ?_
  refine VC.sr ?_
  refine VO.mw ?_
  refine VO.mb ?_
  refine VO.nil ?_
  refine VC.ret ?_
  exact Exists.intro _ (And.intro (RetN.one Tryz.results167 (ResN.v rfl)) (by rw [totalF]; split; (rw [show p.length = 0 by assumption]; rfl); rw [if_neg (by omega)]))
def totE (s : List ByteArray) (p : List (List ByteArray)) : Int := if setsF s p = 0 then totF s p p.length else 0
theorem setsF_zero {s : List ByteArray} {p : List (List ByteArray)} (h : setsF s p = 0) : setupF s = 0 ∧ Good' s ∧ p.length ≤ 200 ∧ (∀ q, q < p.length → RightP s.length (p.getD q default)) ∧ partsF s.length p = 0 := by
 rw [setsF] at h
 split at h
 ·rename_i h1; exact absurd h h1
 ·rename_i h1
  have h0 : setupF s = 0 := by omega
  exact ⟨h0, Good'.of h0, (partsF_zero h).2.1, fun q hq => RightP.of rfl h hq, h⟩
theorem totalF_big {s : List ByteArray} {p : List (List ByteArray)} (hs : s.length ≤ 100) (hl : p.length ≤ 200) (hp : ∀ q, q < p.length → RightP s.length (p.getD q default)) : totalF s p 20001 = totF s p p.length := by
 have := totF_in hs hp p.length (Nat.le_refl _)
 rw [totalF]
 split
 ·rename_i h; rw [h]; rfl
 ·rw [if_neg (by omega)]
theorem setup_Total {s : List ByteArray} {p : List (List ByteArray)} (hs : SmS s) (hl : SmSS p) :
  SpecN Tryz.prog 84 [avStrs s, avM p] (fun y => y = .tup [avI (totE s p), avI (setsF s p)]) := by
 refine SpecN.of_VCN Tryz.func84 rfl Tryz.ntmps84 (Nle rfl) fun w A hB => ?_
 refine VC.sr ?_
 refine VO.mb ?_
 refine VO.mb ?_
 refine VO.nil ?_
 refine VC.seq ?_
 refine VC.sr ?_
 refine VO.mw ?_
 refine VO.mw ?_
 refine VO.op rfl (OpE.call rfl hB rfl Tryz.call166 rfl (SpecN.spec (setup_fault hs hl)) ?_)
 rintro _ rfl
 refine VO.mb ?_
 refine VO.nil ?_
 refine VC.sr ?_
 refine VO.mw ?_
 refine VO.vv (OpV.neq rfl rfl rfl) ?_
 refine VO.nil ?_
 refine VC.cond rfl (fun h0b => ?_) (fun h0b => ?_)
 ·have h0 := h0b
  try simp only [qq] at h0
  refine VC.sr ?_
  refine VO.mw ?_
  refine VO.mb ?_
  refine VO.mb ?_
  refine VO.nil ?_
  refine VC.ret ?_
  exact Exists.intro _ (And.intro (RetN.two Tryz.results84 (ResN.v rfl) (ResN.v rfl)) (by rw [totE, if_neg h0]))
 ·have h0 := h0b
  try simp only [qq] at h0
  obtain ⟨z1, z2, z3, z4, z5⟩ := setsF_zero (s := s) (p := p) (by omega)
  refine VC.skip ?_
  refine VC.sr ?_
  refine VO.mw ?_
  refine VO.mw ?_
  refine VO.op rfl (OpE.call rfl hB rfl Tryz.call167 rfl (SpecN.spec (setup_total z2 z4 hl z3 (by decide))) ?_)
  rintro _ rfl
  refine VO.mb ?_
  refine VO.mb ?_
  refine VO.nil ?_
  refine VC.ret ?_
  exact Exists.intro _ (And.intro (RetN.two Tryz.results84 (ResN.v rfl) (ResN.v rfl)) (by rw [totE, if_pos (by omega), totalF_big z2.len z3 z4, show setsF s p = 0 by omega]))
end
section
def loadS : List ByteArray := [ε]
def loadP : List (List ByteArray) := [[⟨#[97]⟩], [⟨#[98]⟩]]
theorem load_sms : SmS loadS := ⟨by decide, fun i => by cases i with | zero => decide | succ i => simp [loadS]⟩
theorem load_smss : SmSS loadP := ⟨by decide, fun i => by
 match i with
 | 0 => exact ⟨by decide, fun i => by cases i with | zero => decide | succ i => simp [loadP]⟩
 | 1 => exact ⟨by decide, fun i => by cases i with | zero => decide | succ i => simp [loadP]⟩
 | i + 2 => exact SmS.nil⟩
theorem load_ok : setsF loadS loadP = 0 := by decide +kernel
theorem load_two : totE loadS loadP = 2 := by decide +kernel
end
section
section
variable {P : Program} {α : Type} [Enc α]
theorem append1_run (w : World) (c1 : Array Value) (T ty e : TypeId) (i : TypeInfo) (z : Value) (bytes : Nat) (h1 : P.underlying T = some (.slice e)) (h2 : P.info? e = some i)
    (h3 : i.zero = some z) (h4 : i.size = Enc.sz α) (h5 : i.bytes = bytes) (hz : z.cells.size = Enc.sz α) (hby : bytes ≤ 4096)
    (lo : Nat) (v : Value) (xs : List α) (y : α) (hown : Own w lo e v xs) (hlo : lo ≤ w.heap.size) (hlen : xs.length ≤ 1000000000)
    (hy : Enc.Is w (fun k => lo ≤ k ∧ v.ownBlock ≠ some k) y (fun j => c1[j]?)) (hc1 : c1.size = Enc.sz α) :
    ∃ g cap w', (Builtin.append_ #[T, T] ty #[v, .slice (some ⟨w.heap.size, 0, none⟩) 1 1]).run P (w.alloc (.cells c1 e)) = .ok (.slice (some ⟨g, 0, none⟩) (xs.length + 1) cap) w' ∧
      Own w' lo e (.slice (some ⟨g, 0, none⟩) (xs.length + 1) cap) (xs ++ [y]) ∧ Chg (blk v) w w' ∧ (v.ownBlock = some g ∨ w.heap.size ≤ g) ∧ lo ≤ g := by
  obtain ⟨cs, hrow, hel⟩ := hown
  have hsz : 0 < Enc.sz α := Enc.pos
  have hnews : ∀ j u, c1.toList[j]? = some u → (w.alloc (.cells c1 e)).cell? ((⟨w.heap.size, 0, none⟩ : Addr).add j) = some u := by
    intro j u hu
    have hadd : (⟨w.heap.size, 0, none⟩ : Addr).add j = ⟨w.heap.size, j, none⟩ := by unfold Addr.add; split <;> simp_all
    rw [hadd, cell_of_row _ w.heap.size j c1 e (0, 0) (heap_alloc_new w _)]
    simpa using hu
  have hone : ∀ u ∈ c1.toList, u.oneCell' = true := by
    intro u hu
    obtain ⟨j, hj, rfl⟩ := List.mem_iff_getElem.1 hu
    obtain ⟨u', h', h''⟩ := Enc.one hy j (by simpa [hc1] using hj)
    simp at hj
    simp [hj] at h'
    simpa [h'] using h''
  have hl1 : c1.toList.length = 1 * i.size := by simp [hc1, h4]
  have hlen' : (cs ++ c1.toList).length = (xs.length + 1) * Enc.sz α := by rw [List.length_append, hrow.1, Nat.add_mul]; simp [hc1]
  have hl2 : (xs ++ [y]).length = xs.length + 1 := by simp
  have hmx : xs.length + 1 ≤ maxLen := by simp only [maxLen]; omega
  have hb47 : (xs.length + 1) * i.bytes ≤ 140737488355328 := by
    rw [h5]
    exact Nat.le_trans (Nat.mul_le_mul_left _ hby) (by omega)
  -- the elements behind the step, whatever block they end in
  have helem : ∀ (w' : World) (g cap : Nat), Chg (blk v) w w' → (v.ownBlock = some g ∨ w.heap.size ≤ g) →
      ∀ j, (h : j < (xs ++ [y]).length) → Enc.Is w' (fun k => lo ≤ k ∧ (Value.slice (some ⟨g, 0, none⟩) (xs.length + 1) cap).ownBlock ≠ some k) (xs ++ [y])[j] (fun q => (cs ++ c1.toList)[j * Enc.sz α + q]?) := by
    intro w' g cap hch hg j hj
    have hA : ∀ k, ((lo ≤ k ∧ v.ownBlock ≠ some k) ∧ k < w.heap.size) → (lo ≤ k ∧ (Value.slice (some ⟨g, 0, none⟩) (xs.length + 1) cap).ownBlock ≠ some k) := by
      intro k hk
      refine ⟨hk.1.1, ?_⟩
      simp only [Value.ownBlock, ne_eq, Option.some.injEq]
      rintro rfl
      rcases hg with hg | hg
      · exact hk.1.2 hg
      · omega
    have hgo : ∀ (x : α) (f : Nat → Option Value), Enc.Is w (fun k => lo ≤ k ∧ v.ownBlock ≠ some k) x f →
        Enc.Is w' (fun k => lo ≤ k ∧ (Value.slice (some ⟨g, 0, none⟩) (xs.length + 1) cap).ownBlock ≠ some k) x f := by
      intro x f hx
      exact Enc.low (Enc.keep (Enc.low (A' := fun k => (lo ≤ k ∧ v.ownBlock ≠ some k) ∧ k < w.heap.size) hx fun k hk hl => ⟨hk, hl⟩) hch fun k hk hl => hk.1.2) fun k hk _ => hA k hk
    by_cases hjx : j < xs.length
    · rw [List.getElem_append_left hjx]
      refine hgo _ _ (Enc.ext (hel j hjx) fun q hq => ?_)
      have : j * Enc.sz α + q < cs.length := by
        rw [hrow.1]
        have := Nat.mul_le_mul_right (Enc.sz α) (show j + 1 ≤ xs.length from hjx)
        rw [Nat.add_mul] at this; omega
      rw [List.getElem?_append_left this]
    · obtain rfl : j = xs.length := by simp at hj; omega
      rw [List.getElem_append_right (by omega)]
      simp only [Nat.sub_self, List.getElem_cons_zero]
      refine hgo _ _ (Enc.ext hy fun q hq => ?_)
      rw [List.getElem?_append_right (by rw [hrow.1]; omega), hrow.1, Nat.add_sub_cancel_left]
      simp
  rcases hrow.2 with ⟨rfl, h0⟩ | ⟨g, cap, cur, rfl, hbg, hg, hnc, hcm, hcs, htake⟩
  · have hx : xs = [] := List.eq_nil_of_length_eq_zero h0
    subst hx
    have hcs0 : cs = [] := List.eq_nil_of_length_eq_zero (by simpa using hrow.1)
    subst hcs0
    have hr := run_append_nil (P := P) (w.alloc (.cells c1 e)) T ty e i z h1 h2 h3 ⟨w.heap.size, 0, none⟩ 1 1 c1.toList hl1 hnews (by omega) (by omega) (by have := hb47; simp at this; omega)
    have hge := grownCap_ge (w.alloc (.cells c1 e)) 1 0 e
    have hcm := grownCap_le_maxLen (w.alloc (.cells c1 e)) 1 0 e (by simp [maxLen])
    have hch : Chg (blk (.slice none 0 0)) w ((w.alloc (.cells c1 e)).drew.alloc (.cells (c1.toList.toArray ++ Builtin.zeroCells z.cells (grownCap (w.alloc (.cells c1 e)) 1 0 e - 1)) e)) :=
      (((Chg.refl _ w).alloc _).drew).alloc _
    refine ⟨_, _, _, hr, ⟨[] ++ c1.toList, ⟨by rw [hl2]; exact hlen', .inr ⟨_, _, _, by rw [hl2]; rfl, ?_, heap_alloc_new _ _, ?_, hcm, ?_, ?_⟩⟩, helem _ _ _ hch (.inr (by simp))⟩, hch, .inr (by simp), by simp; omega⟩
    · simp; omega
    · simpa using hge
    · simp only [Array.size_append, List.size_toArray, size_zeroCells, hz, Array.length_toList, hc1, List.nil_append]
      rw [Nat.sub_mul, Nat.one_mul]
      have : Enc.sz α ≤ grownCap (w.alloc (.cells c1 e)) 1 0 e * Enc.sz α := Nat.le_mul_of_pos_left _ (by omega)
      omega
    · simp [hc1]
  · by_cases hroom : xs.length + 1 ≤ cap
    · have hgs := (Array.getElem?_eq_some_iff.1 hg).1
      have hg' : (w.alloc (.cells c1 e)).heap[g]? = some (.cells cur e (0, 0)) := (Below.heap_alloc w _ g hgs).trans hg
      have hfit : xs.length * i.size + c1.toList.length ≤ cur.size := by
        rw [hl1, hcs, ← Nat.add_mul, h4]; exact Nat.mul_le_mul_right _ hroom
      have hr := run_append_room (P := P) (w.alloc (.cells c1 e)) T ty e i h1 h2 g xs.length cap cur hg' ⟨w.heap.size, 0, none⟩ 1 1 c1.toList hl1 hnews hone hroom hfit
      have hch : Chg (blk (.slice (some ⟨g, 0, none⟩) xs.length cap)) w ((w.alloc (.cells c1 e)).setRow g (cur.toList.take (xs.length * i.size) ++ c1.toList ++ cur.toList.drop (xs.length * i.size + c1.toList.length)).toArray) :=
        ((Chg.refl _ w).alloc _).grown (row := some g) ⟨rfl, rfl, rfl, by simp, fun k _ hk => setRow_other _ g k _ (fun e => hk (by simp [e]))⟩ (fun k hk _ => by cases hk; rfl)
      refine ⟨_, _, _, hr, ⟨cs ++ c1.toList, ⟨by rw [hl2]; exact hlen', .inr ⟨g, cap, _, by rw [hl2], hbg, setRow_heap _ g cur _ e _ hg', by simpa using hroom, hcm, ?_, ?_⟩⟩, helem _ _ _ hch (.inl rfl)⟩, hch, .inl rfl, hbg⟩
      · simp only [List.size_toArray, List.length_append, List.length_take, List.length_drop, Array.length_toList] at hfit ⊢
        omega
      · rw [h4, htake]
        have : (xs ++ [y]).length * Enc.sz α = (cs ++ c1.toList).length := by rw [hlen']; simp
        rw [this]
        exact List.take_left
    · have holds : ∀ j u, cs[j]? = some u → (w.alloc (.cells c1 e)).cell? ((⟨g, 0, none⟩ : Addr).add j) = some u := by
        intro j u hu
        have hgs := (Array.getElem?_eq_some_iff.1 hg).1
        have h := hrow.cells (g := g) rfl j u hu
        have hadd : ((⟨g, 0, none⟩ : Addr).add j).block = g := by unfold Addr.add; split <;> rfl
        exact (World.cell?_of_block (by rw [hadd]; exact Below.heap_alloc w _ g hgs)).trans h
      have hr := run_append_grow (P := P) (w.alloc (.cells c1 e)) T ty e i z h1 h2 h3 ⟨g, 0, none⟩ xs.length cap cs (by rw [hrow.1, h4]) holds ⟨w.heap.size, 0, none⟩ 1 1 c1.toList hl1 hnews (by omega) (by omega) (growslice_fits (by omega) hb47)
      have hge := grownCap_ge (w.alloc (.cells c1 e)) (xs.length + 1) cap e
      have hcm' := grownCap_le_maxLen (w.alloc (.cells c1 e)) (xs.length + 1) cap e hmx
      have hch : Chg (blk (.slice (some ⟨g, 0, none⟩) xs.length cap)) w ((w.alloc (.cells c1 e)).drew.alloc (.cells (cs.toArray ++ c1.toList.toArray ++ Builtin.zeroCells z.cells (grownCap (w.alloc (.cells c1 e)) (xs.length + 1) cap e - (xs.length + 1))) e)) :=
        (((Chg.refl _ w).alloc _).drew).alloc _
      refine ⟨_, _, _, hr, ⟨cs ++ c1.toList, ⟨by rw [hl2]; exact hlen', .inr ⟨_, _, _, by rw [hl2]; rfl, ?_, heap_alloc_new _ _, ?_, hcm', ?_, ?_⟩⟩, helem _ _ _ hch (.inr (by simp))⟩, hch, .inr (by simp), by simp; omega⟩
      · simp; omega
      · simpa using hge
      · simp only [Array.size_append, List.size_toArray, size_zeroCells, hz, Array.length_toList, hc1, hrow.1]
        rw [Nat.sub_mul, Nat.add_mul, Nat.one_mul]
        have := Nat.mul_le_mul_right (Enc.sz α) hge
        rw [Nat.add_mul, Nat.one_mul] at this
        omega
      · have : (xs ++ [y]).length * Enc.sz α = (cs ++ c1.toList).length := by rw [hlen']; simp
        rw [this]
        simp only [Array.toList_append, List.toList_toArray, ← List.append_assoc]
        exact List.take_left
theorem wpl_append1 {ops : Array Oper} {rest : List Oper} {o : Oper} {a : Act} {Q : Exit → Act → World → Prop} (w : World) (c1 : Array Value)
  (hg : o.guard = none) (s x : Operand) (T e : TypeId) (hop : o.op = Op.call { callee := Callee.builtin Builtin.append, args := #[s, x], argTypes := #[T, T] })
  (i : TypeInfo) (z : Value) (bytes : Nat) (h1 : P.underlying T = some (.slice e)) (h2 : P.info? e = some i)
  (h3 : i.zero = some z) (h4 : i.size = Enc.sz α) (h5 : i.bytes = bytes) (hz : z.cells.size = Enc.sz α) (hby : bytes ≤ 4096)
  (lo : Nat) (v : Value) (xs : List α) (y : α) (hown : Own w lo e v xs) (hlo : lo ≤ w.heap.size) (hlen : xs.length ≤ 1000000000)
  (hy : Enc.Is w (fun k => lo ≤ k ∧ v.ownBlock ≠ some k) y (fun j => c1[j]?)) (hc1 : c1.size = Enc.sz α)
  (hs : a.eval s = v) (hx : a.eval x = .slice (some ⟨w.heap.size, 0, none⟩) 1 1)
  (hK : ∀ g cap w', Own w' lo e (.slice (some ⟨g, 0, none⟩) (xs.length + 1) cap) (xs ++ [y]) → Chg (blk v) w w' → (v.ownBlock = some g ∨ w.heap.size ≤ g) → lo ≤ g →
   wpList P ops Q rest (a.put o.dst (.slice (some ⟨g, 0, none⟩) (xs.length + 1) cap)) w') : wpList P ops Q (o :: rest) a (w.alloc (.cells c1 e)) := by
 refine wpList_plain hg fun K hK' => ?_
 obtain ⟨g, cap, w', hr, r1, r2, r3, r4⟩ := append1_run (P := P) w c1 T o.type e i z bytes h1 h2 h3 h4 h5 hz hby lo v xs y hown hlo hlen hy hc1
 unfold Oper.wp execOp
 simp only [hop, resolve, invoke, builtin, Sem.run_bind, Sem.run_pure, Result.andThen_ok, List.map_toArray, List.map_cons, List.map_nil, hs, hx, hr]
 exact hK' _ _ (hK g cap w' r1 r2 r3 r4)
theorem wpl_append_int {ops : Array Oper} {rest : List Oper} {o : Oper} {a : Act} {Q : Exit → Act → World → Prop} (w : World)
  (hg : o.guard = none) (s x : Operand) (T e : TypeId) (hop : o.op = Op.call { callee := Callee.builtin Builtin.append, args := #[s, x], argTypes := #[T, T] })
  (h1 : P.underlying T = some (.slice e)) (hinfo : (P.info? e).map (fun i => (i.zero, i.size, i.bytes)) = some (some (.int .i64 0), 1, 8))
  (lo : Nat) (v : Value) (xs : List Int) (y : Int) (hown : Own w lo e v xs) (hlo : lo ≤ w.heap.size) (hlen : xs.length ≤ 1000000000)
  (hs : a.eval s = v) (hx : a.eval x = .slice (some ⟨w.heap.size, 0, none⟩) 1 1)
  (hK : ∀ g cap w', Own w' lo e (.slice (some ⟨g, 0, none⟩) (xs.length + 1) cap) (xs ++ [y]) → Chg (blk v) w w' → (v.ownBlock = some g ∨ w.heap.size ≤ g) → lo ≤ g →
   wpList P ops Q rest (a.put o.dst (.slice (some ⟨g, 0, none⟩) (xs.length + 1) cap)) w') : wpList P ops Q (o :: rest) a (w.alloc (.cells #[.int .i64 y] e)) := by
 obtain ⟨i, hi, hz0, hz1, hz2⟩ := info_parts hinfo
 exact wpl_append1 (α := Int) w _ hg s x T e hop i (.int .i64 0) 8 h1 hi hz0 hz1 hz2 rfl (by decide) lo v xs y hown hlo hlen rfl rfl hs hx hK
theorem wpl_append_intB {ops : Array Oper} {rest : List Oper} {o : Oper} {a : Act} {Q : Exit → Act → World → Prop} (w : World)
  (hg : o.guard = none) (s x : Operand) (T e : TypeId) (hop : o.op = Op.call { callee := Callee.builtin Builtin.append, args := #[s, x], argTypes := #[T, T] })
  (h1 : P.underlying T = some (.slice e)) (hinfo : (P.info? e).map (fun i => (i.zero, i.size, i.bytes)) = some (some (.int .i64 0), 1, 8))
  (lo : Nat) (v : Value) (xs : List Int) (y : Int) (hown : Own w lo e v xs) (hlo : lo ≤ w.heap.size) (hlen : xs.length ≤ 1000000000)
  (B : Nat) (hB : B = w.heap.size) (n : Nat) (hn : xs.length = n) (hs : a.eval s = v) (hx : a.eval x = .slice (some ⟨B, 0, none⟩) 1 1)
  (hK : ∀ g cap w', Own w' lo e (.slice (some ⟨g, 0, none⟩) (n + 1) cap) (xs ++ [y]) → Chg (blk v) w w' → (v.ownBlock = some g ∨ w.heap.size ≤ g) → lo ≤ g →
   wpList P ops Q rest (a.put o.dst (.slice (some ⟨g, 0, none⟩) (n + 1) cap)) w') : wpList P ops Q (o :: rest) a (w.alloc (.cells #[.int .i64 y] e)) := by
 subst hB; subst hn
 exact wpl_append_int w hg s x T e hop h1 hinfo lo v xs y hown hlo hlen hs hx hK
end
theorem wpl_make_raw {P : Program} {ops : Array Oper} {rest : List Oper} {o : Oper} {a : Act} {Q : Exit → Act → World → Prop} (w : World)
  (hg : o.guard = none) (l c : Operand) (T e : TypeId) (hop : o.op = Op.makeSlice T l c)
  (z : Value) (bytes : Nat) (h1 : P.underlying T = some (.slice e)) (hinfo : (P.info? e).map (fun i => (i.zero, i.size, i.bytes)) = some (some z, 1, bytes)) (hz : z.cells = #[z]) (hby : bytes ≤ 4096)
  (kl kc : IntKind) (C D : Int) (hl : a.eval l = .int kl C) (hc : a.eval c = .int kc D) (n : Nat) (hC : C = n) (hD : D = n) (hn : n ≤ 1000000000)
  (hK : wpList P ops Q rest (a.put o.dst (.slice (some ⟨w.heap.size, 0, none⟩) n n)) (w.alloc (.cells (Array.replicate n z) e))) :
  wpList P ops Q (o :: rest) a w := by
 subst hC; subst hD
 obtain ⟨i, hi, hz0, hz1, hz2⟩ := info_parts hinfo
 refine wpList_plain hg fun K hK' => ?_
 have hb : (i.bytes : Int) * (n : Int) ≤ 281474976710656 := by
  have h : ((i.bytes * n : Nat) : Int) ≤ 281474976710656 := by
   have : i.bytes * n ≤ 4096 * 1000000000 := by rw [hz2]; exact Nat.mul_le_mul hby hn
   omega
  rwa [Int.natCast_mul] at h
 have hr := run_make (P := P) w T e i z h1 hi hz0 kl kc n n (by omega) (Int.le_refl _) hb (by omega)
 simp only [Int.toNat_natCast] at hr
 have he : madeCells z.cells (n * i.size) = Array.replicate n z := by
  rw [hz, hz1, Nat.mul_one]
  exact Array.ext' (by rw [toList_madeCells_one]; simp)
 rw [he] at hr
 unfold Oper.wp
 simp [execOp, hop, hl, hc, hr, Result.andThen]
 exact hK' _ _ hK
theorem step_append1 {P : Program} {α : Type} [Enc α] {ops : Array Oper} {o : Oper} {a : Act} {K : Act → World → Prop} {Q : Exit → Act → World → Prop} {E : Prop} (w : World) (c1 : Array Value)
  (hg : o.guard = none) (s x : Operand) (T e : TypeId) (hop : o.op = Op.call { callee := Callee.builtin Builtin.append, args := #[s, x], argTypes := #[T, T] })
  (i : TypeInfo) (z : Value) (bytes : Nat) (h1 : P.underlying T = some (.slice e)) (h2 : P.info? e = some i)
  (h3 : i.zero = some z) (h4 : i.size = Enc.sz α) (h5 : i.bytes = bytes) (hz : z.cells.size = Enc.sz α) (hby : bytes ≤ 4096)
  (lo : Nat) (v : Value) (xs : List α) (y : α) (hown : Own w lo e v xs) (hlo : lo ≤ w.heap.size) (hlen : xs.length ≤ 1000000000)
  (hy : Enc.Is w (fun k => lo ≤ k ∧ v.ownBlock ≠ some k) y (fun j => c1[j]?)) (hc1 : c1.size = Enc.sz α)
  (hs : a.eval s = v) (hx : a.eval x = .slice (some ⟨w.heap.size, 0, none⟩) 1 1)
  (hK : ∀ g cap w', Own w' lo e (.slice (some ⟨g, 0, none⟩) (xs.length + 1) cap) (xs ++ [y]) → Chg (blk v) w w' → (v.ownBlock = some g ∨ w.heap.size ≤ g) → lo ≤ g →
   K (a.put o.dst (.slice (some ⟨g, 0, none⟩) (xs.length + 1) cap)) w') :
  if Region.wanted o (yielded ops a.tmps) = true then Oper.wp P o a (w.alloc (.cells c1 e)) K Q else E := by
 have hw : Region.wanted o (yielded ops a.tmps) = true := by simp [Region.wanted, hg]
 rw [if_pos hw]
 obtain ⟨g, cap, w', hr, r1, r2, r3, r4⟩ := append1_run (P := P) w c1 T o.type e i z bytes h1 h2 h3 h4 h5 hz hby lo v xs y hown hlo hlen hy hc1
 unfold Oper.wp execOp
 simp only [hop, resolve, invoke, builtin, Sem.run_bind, Sem.run_pure, Result.andThen_ok, List.map_toArray, List.map_cons, List.map_nil, hs, hx, hr]
 exact hK g cap w' r1 r2 r3 r4
end
section
theorem infoInt : (Tryz.prog.info? 3).map (fun i => (i.zero, i.size, i.bytes)) = some (some (.int .i64 0), 1, 8) := by kernel_rfl
end
end Go.Proofs.YtcploodfholkkaaGreatDoor
namespace Go.Proofs.YtcploodfholkkaaGreatDoor
open Go.RowKit
set_option maxRecDepth 100000
section
structure Pass where
 taken : Int
 left : Int
instance : Enc Pass where
 sz := 2
 Is _ _ p f := f 0 = some (.int .i64 p.taken) ∧ f 1 = some (.int .i64 p.left)
 keep h _ _ := h
 low h _ := h
 ext h e := ⟨(e 0 (by omega)) ▸ h.1, (e 1 (by omega)) ▸ h.2⟩
 one h j hj := by
  rcases (show j = 0 ∨ j = 1 by omega) with rfl | rfl
  ·exact ⟨_, h.1, rfl⟩
  ·exact ⟨_, h.2, rfl⟩
 pos := by omega
instance : Flat Pass := ⟨fun h => h⟩
def at' (l : List Int) (k : Nat) : Int := l.getD k 0
def pas (c bf : List Int) (b k : Nat) : Pass :=
  let here : Int := if hk : k = 0 then 0 else (pas c bf b (k - 1)).left
  let taken : Int := if hb : b = 0 then here else max here (pas c bf (b - 1) k).left
  let left : Int := taken + at' c k
  ⟨taken, if k + 1 < c.length then
      (if at' bf k = 0 then (if hb : b = 0 then left else max left (pas c bf (b - 1) (k + 1)).left)
       else if hr : 0 < at' bf k ∧ at' bf k ≤ b then max left (pas c bf (b - (at' bf k).toNat) (k + 1)).taken else left)
    else left⟩
termination_by (b, k)
decreasing_by
  all_goals simp_wf
  all_goals first
    | (apply Prod.Lex.right; omega)
    | (apply Prod.Lex.left; omega)
def here (c bf : List Int) (b k : Nat) : Int := if k = 0 then 0 else (pas c bf b (k - 1)).left
theorem pas_taken (c bf : List Int) (b k : Nat) : (pas c bf b k).taken = if b = 0 then here c bf b k else max (here c bf b k) (pas c bf (b - 1) k).left := by
 rw [pas]; simp only [here]; split <;> simp_all
theorem pas_left (c bf : List Int) (b k : Nat) : (pas c bf b k).left =
    if k + 1 < c.length then
      (if at' bf k = 0 then (if b = 0 then (pas c bf b k).taken + at' c k else max ((pas c bf b k).taken + at' c k) (pas c bf (b - 1) (k + 1)).left)
       else if 0 < at' bf k ∧ at' bf k ≤ b then max ((pas c bf b k).taken + at' c k) (pas c bf (b - (at' bf k).toNat) (k + 1)).taken else (pas c bf b k).taken + at' c k)
    else (pas c bf b k).taken + at' c k := by
  conv => lhs; rw [pas]
  conv => rhs; rw [pas_taken]
  simp only [here]
  repeat' split
  all_goals simp_all
structure RightLine (c bf : List Int) : Prop where
 len : c.length ≤ 6
 pos : 0 < c.length
 c1 : ∀ k, k < c.length → 1 ≤ at' c k ∧ at' c k ≤ 10000000
 b0 : ∀ k, 0 ≤ at' bf k
 bl : bf.length + 1 = c.length
theorem pas_bd {c bf : List Int} (h : RightLine c bf) (b : Nat) : ∀ k, k < c.length →
  0 ≤ (pas c bf b k).taken ∧ (pas c bf b k).taken + at' c k ≤ (pas c bf b k).left ∧ (pas c bf b k).left ≤ 10000000 * (b + k + 1) := by
 induction b using Nat.strongRecOn with
 | _ b ihb =>
  intro k
  induction k with
  | zero =>
   intro hk
   have hc := h.c1 0 hk
   have ht := pas_taken c bf b 0
   have hl := pas_left c bf b 0
   have hh : here c bf b 0 = 0 := by simp [here]
   rw [hh] at ht
   have h1 : 0 < b → _ := fun hb => ihb (b - 1) (by omega) 0 hk
   have h2 : 0 < b → 1 < c.length → _ := fun hb hk1 => ihb (b - 1) (by omega) 1 hk1
   have h3 : 0 < at' bf 0 ∧ at' bf 0 ≤ b → 1 < c.length → _ := fun hb hk1 => ihb (b - (at' bf 0).toNat) (by omega) 1 hk1
   have hc1 := h.c1 1
   split at ht <;> (split at hl <;> (try split at hl) <;> (try split at hl)) <;> grind
  | succ k ihk =>
   intro hk
   have hc := h.c1 (k + 1) hk
   have hcp := h.c1 k (by omega)
   have hp := ihk (by omega)
   have ht := pas_taken c bf b (k + 1)
   have hl := pas_left c bf b (k + 1)
   have hh : here c bf b (k + 1) = (pas c bf b k).left := by simp [here]
   rw [hh] at ht
   have h1 : 0 < b → _ := fun hb => ihb (b - 1) (by omega) (k + 1) hk
   have h2 : 0 < b → k + 2 < c.length → _ := fun hb hk1 => ihb (b - 1) (by omega) (k + 2) hk1
   have h3 : 0 < at' bf (k + 1) ∧ at' bf (k + 1) ≤ b → k + 2 < c.length → _ := fun hb hk1 => ihb (b - (at' bf (k + 1)).toNat) (by omega) (k + 2) hk1
   have hc1 := h.c1 (k + 2)
   split at ht <;> (split at hl <;> (try split at hl) <;> (try split at hl)) <;> grind
end
section
def PredI (F : FuncId) (caps : Array Value) (pr : Int → Bool) (w : World) (xs : List Int) : Prop :=
 (∀ args w, (callFunc F args).run Tryz.prog w = .ok (.enter F args) w) ∧
 ∀ x ∈ xs, ∀ w1, Chg NoB w w1 → Calls Tryz.prog F (#[.int .i64 x] ++ caps) w1 fun e w2 => e = .returned (.bool (pr x)) ∧ Chg NoB w1 w2
def idx {α : Type} (pr : α → Bool) (xs : List α) : Int := match xs.findIdx? pr with
 | some i => i
 | none => -1
theorem idx_none {α : Type} {pr : α → Bool} {xs : List α} (h : ∀ j, (hj : j < xs.length) → pr xs[j] = false) : idx pr xs = -1 := by
 have : xs.findIdx? pr = none := by
  rw [List.findIdx?_eq_none_iff]
  intro x hx
  obtain ⟨j, hj, rfl⟩ := List.mem_iff_getElem.1 hx
  exact h j hj
 rw [idx, this]
theorem idx_some {α : Type} {pr : α → Bool} {xs : List α} {i : Nat} (hi : i < xs.length) (hp : pr xs[i] = true) (h : ∀ j, (hj : j < i) → pr (xs[j]'(by omega)) = false) : idx pr xs = i := by
 have : xs.findIdx? pr = some i := by
  rw [List.findIdx?_eq_some_iff_getElem]
  exact ⟨hi, hp, fun j hj => by simp [h j hj]⟩
 rw [idx, this]
theorem idx_any {α : Type} (pr : α → Bool) (xs : List α) : decide (0 ≤ idx pr xs) = xs.any pr := by
 unfold idx
 cases h : xs.findIdx? pr with
 | none =>
  rw [List.findIdx?_eq_none_iff] at h
  symm
  simp [List.any_eq_false]
  intro x hx
  simp [h x hx]
 | some i =>
  rw [List.findIdx?_eq_some_iff_getElem] at h
  obtain ⟨hi, hp, _⟩ := h
  symm
  simp only [Int.natCast_nonneg, decide_true, List.any_eq_true]
  exact ⟨xs[i], List.getElem_mem _, hp⟩
set_option maxHeartbeats 400000 in
theorem indexFuncI (v : Value) (xs : List Int) (F : FuncId) (caps : Array Value) (pr : Int → Bool) (A : Nat → Prop) (w : World) (hv : IsSl w A v xs) (hF : PredI F caps pr w xs) :
  Calls Tryz.prog 254 #[v, .func (.func F) #[] caps] w fun e w' => e = .returned (.int .i64 (idx pr xs)) ∧ Chg NoB w w' := by
 obtain ⟨hcf, hF⟩ := hF
 obtain ⟨a, cap, rfl, hc1, hc2⟩ := hv.shape
 unfold maxLen at hc2
 go_enter Tryz.func254, Tryz.ntmps254
 go_wp2_with fail
 go_loopw [5, 8] (fun _ i wr => ∃ j : Nat, j ≤ xs.length ∧ i = .int .i64 j ∧ Hid (∀ q, (hq : q < j) → (hq' : q < xs.length) → pr xs[q] = false) ∧ Chg NoB w wr)
  (fun _ i _ => xs.length - (intOf i).toNat)
 case atStart => exact ⟨0, by omega, rfl, hid fun q hq => by omega, Chg.refl _ _⟩
 case round =>
  obtain ⟨j, hj, rfl, hno, hch⟩ := hrel
  by_cases hjn : j < xs.length
  ·obtain ⟨b, off, rfl, hb, hcells⟩ := hv.ints (by omega)
   have hcell := hch.cell (hcells j hjn) (fun x => x)
   clear hcells
   have HF := hid (hF xs[j] (List.getElem_mem _) wr hch)
   clear hF
   go_wp2_with fail
   refine HF.out.mono ?_
   rintro e w2 ⟨rfl, hc3⟩
   go_wp2_with fail
   ·have hp : pr xs[j] = true := by assumption
    go_ret
    exact ⟨ret_int (idx_some hjn hp fun q hq => hno.out q hq (by omega)).symm, hch.trans hc3⟩
   ·have hp : pr xs[j] = false := by assumption
    go_roundw
    case rel => exact ⟨j + 1, by omega, by go_num, hid fun q hq hq' => by
     by_cases h : q < j
     ·exact hno.out q h hq'
     ·obtain rfl : q = j := by omega
      exact hp, hch.trans hc3⟩
    case measure => simp [intOf]; omega
  ·go_wp2_with fail
   go_ret
   exact ⟨ret_int (idx_none fun q hq => hno.out q (by omega) hq).symm, hch⟩
set_option maxHeartbeats 400000 in
theorem containsFuncI (v : Value) (xs : List Int) (F : FuncId) (caps : Array Value) (pr : Int → Bool) (A : Nat → Prop) (w : World) (hv : IsSl w A v xs) (hF : PredI F caps pr w xs) :
  Calls Tryz.prog 181 #[v, .func (.func F) #[] caps] w fun e w' => e = .returned (.bool (xs.any pr)) ∧ Chg NoB w w' := by
 have hc := indexFuncI v xs F caps pr A w hv hF
 have HC := hid hc; clear hc hF
 go_enter Tryz.func181, Tryz.ntmps181
 go_wp2_with (go_at_call 254; refine HC.out.mono ?_; rintro e w1 ⟨rfl, hc1⟩)
 go_ret
 exact ⟨ret_bool (idx_any pr xs), hc1⟩
set_option maxHeartbeats 400000 in
theorem outside_any (n lo hi : Int) (w : World) :
  Calls Tryz.prog 161 #[.int .i64 n, .int .i64 lo, .int .i64 hi] w fun e w' => e = .returned (.bool (decide (n < lo) || decide (hi < n))) ∧ w = w' := by
 by_cases h : n < lo
 ·go_enter Tryz.func161, Tryz.ntmps161
  go_wp2_with fail
  go_ret
  exact ⟨ret_bool (by simp [h]), rfl⟩
 ·go_enter Tryz.func161, Tryz.ntmps161
  go_wp2_with fail
  go_ret
  exact ⟨ret_bool (by simp; omega), rfl⟩
end
section
def outB (lo hi x : Int) : Bool := decide (x < lo) || decide (hi < x)
def cycF (c : List Int) : Int := if c.length = 0 then 8 else if 6 < c.length then 2 else if c.any (outB 1 10000000) then 1 else 0
def flowF (c b : List Int) (n : Int) : Int :=
 if cycF c ≠ 0 then cycF c else if (b.length : Int) ≠ c.length - 1 then 3 else if b.any (outB 0 2000) || outB 1 2000 n then 1 else 0
theorem outside_b (n lo hi : Int) (w : World) :
  Calls Tryz.prog 161 #[.int .i64 n, .int .i64 lo, .int .i64 hi] w fun e w' => e = .returned (.bool (outB lo hi n)) ∧ w = w' := outside_any n lo hi w
set_option maxHeartbeats 400000 in
theorem cycPred1 (w : World) (xs : List Int) : PredI 253 #[] (outB 1 10000000) w xs := by
 refine ⟨enters_of Tryz.func253 (by kernel_rfl) rfl, fun x hx w1 hc => ?_⟩
 go_enter Tryz.func253, Tryz.ntmps253
 go_wp2_with (go_at_call 161; refine (outside_b _ _ _ _).mono ?_; rintro e w' ⟨rfl, rfl⟩)
 go_ret
 exact ⟨rfl, Chg.refl _ _⟩
set_option maxHeartbeats 400000 in
theorem flowPred (w : World) (xs : List Int) : PredI 182 #[] (outB 0 2000) w xs := by
 refine ⟨enters_of Tryz.func182 (by kernel_rfl) rfl, fun x hx w1 hc => ?_⟩
 go_enter Tryz.func182, Tryz.ntmps182
 go_wp2_with (go_at_call 161; refine (outside_b _ _ _ _).mono ?_; rintro e w' ⟨rfl, rfl⟩)
 go_ret
 exact ⟨ret_bool (rfl), Chg.refl _ _⟩
set_option maxHeartbeats 400000 in
theorem cyclesFault_any (v : Value) (c : List Int) (A : Nat → Prop) (w : World) (hv : IsSl w A v c) :
  Calls Tryz.prog 180 #[v] w fun e w' => e = .returned (.int .i64 (cycF c)) ∧ Chg NoB w w' := by
 have hcf := containsFuncI v c _ _ _ A w hv (cycPred1 w c)
 have HC := hid hcf; clear hcf
 obtain ⟨a, cap, rfl, h1, h2⟩ := hv.shape
 unfold maxLen at h2
 by_cases h0 : c.length = 0
 ·have hb : ((c.length : Int) == 0) = true := by simp [h0]
  have H0 := hid h0; clear h0
  go_enter Tryz.func180, Tryz.ntmps180
  go_wp2_with fail
  go_ret
  exact ⟨ret_int (by rw [cycF, if_pos H0.out]), Chg.refl _ _⟩
 ·have hb : ((c.length : Int) == 0) = false := beq_eq_false_iff_ne.2 (by omega)
  by_cases h6 : 6 < c.length
  ·go_enter Tryz.func180, Tryz.ntmps180
   go_wp2_with fail
   go_ret
   exact ⟨ret_int (by rw [cycF, if_neg h0, if_pos h6]), Chg.refl _ _⟩
  ·obtain ⟨q, hq⟩ : ∃ q, q = c.any (outB 1 10000000) := ⟨_, rfl⟩
   have HF : Hid (cycF c = if q then 1 else 0) := by rw [hq, cycF, if_neg h0, if_neg h6]; rfl
   rw [← hq] at HC
   clear hq
   cases q <;>
   ·go_enter Tryz.func180, Tryz.ntmps180
    go_wp2_with (go_at_call 181; refine HC.out.mono ?_; rintro e w1 ⟨rfl, hc1⟩)
    go_ret
    exact ⟨ret_int HF.out.symm, hc1⟩
set_option maxHeartbeats 400000 in
theorem flowFault_any (v1 v2 : Value) (c b : List Int) (n : Int) (A1 A2 : Nat → Prop) (w : World) (h1 : IsSl w A1 v1 c) (h2 : IsSl w A2 v2 b) :
  Calls Tryz.prog 97 #[v1, v2, .int .i64 n] w fun e w' => e = .returned (.int .i64 (flowF c b n)) ∧ Chg NoB w w' := by
 have HY := hid (cyclesFault_any v1 c A1 w h1)
 have HC : Hid (∀ w1, Chg NoB w w1 → _) := hid fun w1 (hc : Chg NoB w w1) => containsFuncI v2 b _ _ _ A2 w1 (h2.keepN hc) (flowPred w1 b)
 obtain ⟨a1, cap1, rfl, g1, g2⟩ := h1.shape
 obtain ⟨a2, cap2, rfl, g3, g4⟩ := h2.shape
 unfold maxLen at g2 g4
 obtain ⟨f, hf⟩ : ∃ f, f = cycF c := ⟨_, rfl⟩
 rw [← hf] at HY
 by_cases hf0 : f = 0
 ·subst hf0
  by_cases hl : (b.length : Int) = c.length - 1
  ·have hb : ((b.length : Int) != (c.length : Int) - 1) = false := by simp [hl]
   obtain ⟨q, hq⟩ : ∃ q, q = b.any (outB 0 2000) := ⟨_, rfl⟩
   obtain ⟨r, hr⟩ : ∃ r, r = outB 1 2000 n := ⟨_, rfl⟩
   have HR := hid hr
   have HF : Hid (flowF c b n = if q || r then 1 else 0) := by rw [hq, hr, flowF, if_neg (by simpa using hf.symm), if_neg (by simpa using hl)]; rfl
   rw [← hq] at HC
   clear hq hr hf hl
   cases q <;> cases r <;>
   ·go_enter Tryz.func97, Tryz.ntmps97
    go_wp2_with (first | (go_at_call 180; refine HY.out.mono ?_; rintro e w1 ⟨rfl, hc1⟩) | (go_at_call 181; refine (HC.out _ (by assumption)).mono ?_; rintro e w2 ⟨rfl, hc2⟩) | (go_at_call 161; refine (outside_b _ _ _ _).mono ?_; rw [← HR.out]; rintro e w3 ⟨rfl, rfl⟩))
    go_ret
    exact ⟨ret_int HF.out.symm, by first | exact (by assumption : Chg NoB w _) | exact Chg.trans (by assumption) (by assumption)⟩
  ·have hb : ((b.length : Int) != (c.length : Int) - 1) = true := by simp [hl]
   have HF : Hid (flowF c b n = 3) := by unfold Hid; rw [flowF, if_neg (by simpa using hf.symm), if_pos hl]
   clear hf hl
   go_enter Tryz.func97, Tryz.ntmps97
   go_wp2_with (go_at_call 180; refine HY.out.mono ?_; rintro e w1 ⟨rfl, hc1⟩)
   go_ret
   exact ⟨ret_int HF.out.symm, hc1⟩
 ·have hb : (f != 0) = true := by simp [hf0]
  have HF : Hid (flowF c b n = f) := by unfold Hid; rw [flowF, if_pos (by rw [← hf]; exact hf0), hf]
  clear hf hf0
  go_enter Tryz.func97, Tryz.ntmps97
  go_wp2_with (go_at_call 180; refine HY.out.mono ?_; rintro e w1 ⟨rfl, hc1⟩)
  go_ret
  exact ⟨ret_int HF.out.symm, hc1⟩
end
section
structure Mat {α : Type} [Enc α] (w : World) (lo g n : Nat) (eo ei : TypeId) (V : Nat → Value) (R : Nat → List α) : Prop where
 low : lo ≤ g
 ex : ∃ cur, w.heap[g]? = some (.cells cur eo (0, 0)) ∧ cur.size = n ∧ ∀ k, k < n → cur[k]? = some (V k)
 own : ∀ k, k < n → Own w lo ei (V k) (R k)
 out : ∀ k, k < n → (V k).ownBlock ≠ some g
 sep : ∀ j k, j < n → k < n → j ≠ k → ∀ q, (V j).ownBlock = some q → (V k).ownBlock ≠ some q
namespace Mat
variable {α : Type} [Enc α] {w w' : World} {lo g n : Nat} {eo ei : TypeId} {V : Nat → Value} {R R' : Nat → List α}
theorem lt (h : Mat w lo g n eo ei V R) : g < w.heap.size := by obtain ⟨cur, h1, _⟩ := h.ex; exact (Array.getElem?_eq_some_iff.1 h1).1
theorem start (w : World) (lo n : Nat) (eo ei : TypeId) (hlo : lo ≤ w.heap.size) : Mat (α := α) (w.alloc (.cells (Array.replicate n (.slice none 0 0)) eo)) lo w.heap.size n eo ei (fun _ => .slice none 0 0) (fun _ => []) :=
 ⟨hlo, ⟨_, heap_alloc_new w _, by simp, fun k hk => by simp [hk]⟩, fun k hk => Own.nil _ _ _, fun k hk => by simp [Value.ownBlock], fun j k _ _ _ q h => by simp [Value.ownBlock] at h⟩
theorem congr (h : Mat w lo g n eo ei V R) (e : ∀ k, k < n → R k = R' k) : Mat w lo g n eo ei V R' :=
 ⟨h.low, h.ex, fun k hk => e k hk ▸ h.own k hk, h.out, h.sep⟩
theorem keep {S : Nat → Prop} (h : Mat w lo g n eo ei V R) (c : Chg S w w') (hs : ∀ k, lo ≤ k → k < w.heap.size → ¬ S k) : Mat w' lo g n eo ei V R := by
 obtain ⟨cur, h1, h2, h3⟩ := h.ex
 exact ⟨h.low, ⟨cur, (c.block g h.lt (hs g h.low h.lt)).trans h1, h2, h3⟩, fun k hk => (h.own k hk).keep c hs, h.out, h.sep⟩
theorem cell (h : Mat w lo g n eo ei V R) (k : Nat) (hk : k < n) : w.cell? ⟨g, k, none⟩ = some (V k) := by
 obtain ⟨cur, h1, h2, h3⟩ := h.ex
 simp [World.cell?, h1, h3 k hk]
theorem froz (h : Mat w lo g n eo ei V R) (k : Nat) : w.frozen? ⟨g, k, none⟩ = false := by
 obtain ⟨cur, h1, h2, h3⟩ := h.ex
 simp [World.frozen?, h1]
theorem step [Flat α] (h : Mat w lo g n eo ei V R) (k : Nat) (hk : k < n) (v' : Value) (xs : List α) (ho : Own w' lo ei v' xs) (c : Chg (blk (V k)) w w')
  (hb : ∀ q, v'.ownBlock = some q → (V k).ownBlock = some q ∨ w.heap.size ≤ q) :
  Mat (w'.setCell ⟨g, k, none⟩ v') lo g n eo ei (fun j => if j = k then v' else V j) (fun j => if j = k then xs else R j) := by
 obtain ⟨cur, h1, h2, h3⟩ := h.ex
 have hg : w'.heap[g]? = some (.cells cur eo (0, 0)) := (c.block g h.lt (h.out k hk)).trans h1
 have hs : Chg (AtB g) w' (w'.setCell ⟨g, k, none⟩ v') := Chg.setAt _ _ _ _
 have hvg : v'.ownBlock ≠ some g := by
  intro e
  rcases hb g e with e | e
  ·exact h.out k hk e
  ·have := h.lt; omega
 refine ⟨h.low, ⟨cur.setIfInBounds k v', ?_, by simpa using h2, ?_⟩, ?_, ?_, ?_⟩
 ·simp [World.setCell, Array.getElem?_modify, hg]
 ·intro j hj
  rw [Array.getElem?_setIfInBounds]
  by_cases hjk : k = j
  ·subst hjk; simp [h2, hk]
  ·rw [if_neg hjk, if_neg (fun e => hjk e.symm)]; exact h3 j hj
 ·intro j hj
  by_cases hjk : j = k
  ·subst hjk
   simp only [if_true]
   exact ho.keepF hs fun q hq x => by unfold AtB at x; subst x; exact hvg hq
  ·simp only [if_neg hjk]
   refine ((h.own j hj).keepF c fun q hq x => h.sep j k hj hk hjk q hq x).keepF hs fun q hq x => ?_
   unfold AtB at x; subst x; exact h.out j hj hq
 ·intro j hj
  by_cases hjk : j = k
  ·subst hjk; simpa using hvg
  ·simp only [if_neg hjk]; exact h.out j hj
 ·intro j i hj hi hne q hq
  by_cases hjk : j = k
  ·subst hjk
   simp only [if_true, if_neg (fun e : i = j => hne e.symm)] at hq ⊢
   rcases hb q hq with e | e
   ·exact h.sep j i hk hi hne q e
   ·intro e2
    have := ((h.own i hi).lt q e2).2
    omega
  ·simp only [if_neg hjk] at hq
   by_cases hik : i = k
   ·subst hik
    simp only [if_true]
    intro e
    rcases hb q e with e | e
    ·exact h.sep j i hj hi hjk q hq e
    ·have := ((h.own j hj).lt q hq).2
     omega
   ·simp only [if_neg hik]; exact h.sep j i hj hi hne q hq
theorem isSl (h : Mat w lo g n eo ei V R) (hm : n ≤ maxLen) : IsSl w (fun k => lo ≤ k) (.slice (some ⟨g, 0, none⟩) n n) ((List.range n).map R) := by
 obtain ⟨cur, h1, h2, h3⟩ := h.ex
 refine .inr ⟨g, 0, n, cur, eo, by simp, h.low, by simp, hm, h1, fun i hi => ?_⟩
 simp at hi
 refine ⟨V i, ?_, ?_⟩
 ·simpa [Enc.sz] using h3 i hi
 ·simpa using (h.own i hi).isSl
end Mat
theorem Own.pcell {w : World} {lo e g n cap : Nat} {xs : List Pass} (h : Own w lo e (.slice (some ⟨g, 0, none⟩) n cap) xs) (i : Nat) (hi : i < xs.length) :
  w.cell? ⟨g, i * 2, none⟩ = some (.int .i64 xs[i].taken) ∧ w.cell? ⟨g, i * 2 + 1, none⟩ = some (.int .i64 xs[i].left) := by
 obtain ⟨b, off, ha, hb, hc⟩ := h.isSl.cells.2 (by omega)
 cases ha
 have := hc i hi
 simp only [Enc.Is, Enc.sz, Nat.zero_add, Nat.add_zero] at this
 exact this
theorem infoPass : (Tryz.prog.info? 191).map (fun i => (i.zero, i.size, i.bytes)) = some (some (.agg #[.int .i64 0, .int .i64 0]), 2, 16) := by kernel_rfl
theorem infoSlPass : (Tryz.prog.info? 189).map (fun i => (i.zero, i.size, i.bytes)) = some (some (.slice none 0 0), 1, 24) := by kernel_rfl
def PBlk (w : World) (P : Nat) (x y : Int) : Prop := w.heap[P]? = some (.cells #[.int .i64 x, .int .i64 y] 191 (0, 0))
theorem PBlk.new (w : World) (x y : Int) : PBlk (w.alloc (.cells #[.int .i64 x, .int .i64 y] 191)) w.heap.size x y := heap_alloc_new w _
theorem PBlk.facts {w : World} {P : Nat} {x y : Int} (h : PBlk w P x y) : w.cell? ⟨P, 0, none⟩ = some (.int .i64 x) ∧ w.cell? ⟨P, 1, none⟩ = some (.int .i64 y) ∧ w.frozen? ⟨P, 0, none⟩ = false ∧ w.frozen? ⟨P, 1, none⟩ = false := by
 unfold PBlk at h
 simp [World.cell?, World.frozen?, h]
theorem PBlk.set1 {w : World} {P : Nat} {x y : Int} (h : PBlk w P x y) (z : Int) : PBlk (w.setCell ⟨P, 1, none⟩ (.int .i64 z)) P x z := by
 unfold PBlk at h ⊢; simp [World.setCell, Array.getElem?_modify, h]
def rowP (c bf : List Int) (b k j : Nat) : List Pass := (List.range (if j < k then b + 1 else b)).map fun q => pas c bf q j
theorem flow_step {c bf : List Int} {w wr w5 w6 : World} {V : Nat → Value} {b k g6 cap6 : Nat} {ak : Option Addr} {capk : Nat} {T Z : Int} (hkl : k < c.length)
  (hmx : Mat w5 w.heap.size w.heap.size c.length 189 191 V (rowP c bf b k)) (hT : T = (pas c bf b k).taken) (hZ : Z = (pas c bf b k).left)
  (hv : V k = .slice ak b capk) (hown : Own w6 w.heap.size 191 (.slice (some ⟨g6, 0, none⟩) ((rowP c bf b k k).length + 1) cap6) (rowP c bf b k k ++ [⟨T, Z⟩]))
  (hc6 : Chg (blk (.slice ak b capk)) w5.drew w6) (hg6 : (Value.slice ak b capk).ownBlock = some g6 ∨ w5.drew.heap.size ≤ g6)
  (hch : Chg (NewB w.heap.size) w wr) (hcx : Chg (NewB wr.heap.size) wr w5) :
  Mat (w6.setCell ⟨w.heap.size, k, none⟩ (.slice (some ⟨g6, 0, none⟩) ((rowP c bf b k k).length + 1) cap6)) w.heap.size w.heap.size c.length 189 191
    (fun j => if j = k then .slice (some ⟨g6, 0, none⟩) ((rowP c bf b k k).length + 1) cap6 else V j) (rowP c bf b (k + 1)) ∧
   Chg (NewB w.heap.size) w (w6.setCell ⟨w.heap.size, k, none⟩ (.slice (some ⟨g6, 0, none⟩) ((rowP c bf b k k).length + 1) cap6)) ∧ here c bf b (k + 1) = Z := by
 rw [← hv] at hc6 hg6
 refine ⟨(hmx.step k hkl _ _ hown hc6.ofDrew fun q hq => ?_).congr fun j hj => ?_, ?_, ?_⟩
 ·simp only [Value.ownBlock, Option.some.injEq] at hq
  subst hq; exact hg6
 ·by_cases hjk : j = k
  ·subst hjk
   simp only [if_true, rowP, Nat.lt_irrefl, if_false, Nat.lt_succ_self, List.range_succ, List.map_append, List.map_cons, List.map_nil]
   rw [hT, hZ]
  ·simp only [if_neg hjk, rowP]
   have : j < k + 1 ↔ j < k := by omega
   simp only [this]
 ·have h1 : Chg (NewB w.heap.size) w w5 := hch.trans (hcx.mono fun q hq x => by have := hch.size; unfold NewB at x ⊢; omega)
  exact (h1.trans (hc6.ofDrew.mono fun q hq x => ((hmx.own k hkl).lt q x).1)).setCell (a := ⟨w.heap.size, k, none⟩) (fun _ => Nat.le_refl _) _
 ·simp [here, hZ]
set_option maxHeartbeats 2000000 in
theorem flow_any (v1 v2 : Value) (c bf : List Int) (n : Nat) (A1 A2 : Nat → Prop) (w : World) (h1 : IsSl w A1 v1 c) (h2 : IsSl w A2 v2 bf) (hr : RightLine c bf) (hn : n ≤ 2000) :
    Calls Tryz.prog 98 #[v1, v2, .int .i64 n] w fun e w' => ∃ v, e = .returned v ∧ IsSl w' (fun k => w.heap.size ≤ k) v ((List.range c.length).map fun k => (List.range n).map fun q => pas c bf q k) ∧ Chg NoB w w' := by
  obtain ⟨a1, cap1, rfl, g1, g2⟩ := h1.shape
  obtain ⟨a2, cap2, rfl, g3, g4⟩ := h2.shape
  unfold maxLen at g2 g4
  have hlen := hr.len
  have hpos := hr.pos
  have hbl := hr.bl
  have HR := hid hr; clear hr
  go_enter Tryz.func98, Tryz.ntmps98
  go_wp2_with (at_make; refine wpl_make_raw w rfl _ _ 187 189 rfl (.slice none 0 0) 24 Tryz.underlying187 infoSlPass rfl (by decide) .i64 .i64 _ _ rfl rfl c.length rfl rfl (by omega) ?_)
  have hst := Mat.start (α := Pass) w w.heap.size c.length 189 191 (Nat.le_refl _)
  obtain ⟨w0, hw0⟩ : ∃ w0, w0 = w.alloc (.cells (Array.replicate c.length (.slice none 0 0)) 189) := ⟨_, rfl⟩
  have hc0 : Chg NoB w w0 := by rw [hw0]; exact (Chg.refl _ _).alloc _
  rw [← hw0] at hst ⊢
  clear hw0
  go_loopw [8, 18] (fun _ i wr => ∃ (b : Nat) (V : Nat → Value), b ≤ n ∧ i = .int .i64 b ∧ Mat wr w.heap.size w.heap.size c.length 189 191 V (rowP c bf b 0) ∧ Chg (NewB w.heap.size) w wr)
    (fun _ i _ => n - (intOf i).toNat)
  case atStart => exact ⟨0, _, by omega, rfl, hst.congr fun k hk => by simp [rowP], hc0.any⟩
  case round =>
    obtain ⟨b, V, hb, rfl, hmat, hch⟩ := hrel
    by_cases hbn : b < n
    · obtain ⟨wo, rfl⟩ : ∃ wo : World, wo = wr := ⟨_, rfl⟩
      go_wp2_with fail
      go_loopw [9, 10, 11, 13, 23] (fun h _ _ _ i wr => ∃ (k : Nat) (V : Nat → Value), k ≤ c.length ∧ i = .int .i64 k ∧ h = .int .i64 (here c bf b k) ∧ Mat wr w.heap.size w.heap.size c.length 189 191 V (rowP c bf b k) ∧ Chg (NewB w.heap.size) w wr)
        (fun _ _ _ _ i _ => c.length - (intOf i).toNat)
      case atStart => exact ⟨0, _, by omega, rfl, rfl, hmat, hch⟩
      case round =>
        clear hmat hch
        obtain ⟨k, V, hk, rfl, rfl, hmat, hch⟩ := hrel
        by_cases hkl : k < c.length
        · have hszr := hch.size
          have hgl := hmat.lt
          obtain ⟨bc, oc, rfl, _, hcc⟩ := h1.ints (by omega)
          have hcell := hch.cellNew (Nat.le_refl _) (hcc k hkl)
          have hbd := pas_bd HR.out b k hkl
          have hck := HR.out.c1 k hkl
          have hac : at' c k = c[k] := by simp [at', hkl]
          rw [hac] at hbd hck
          obtain ⟨T, hT⟩ : ∃ T, T = (pas c bf b k).taken := ⟨_, rfl⟩
          obtain ⟨Z, hZ⟩ : ∃ Z, Z = (pas c bf b k).left := ⟨_, rfl⟩
          rw [← hT, ← hZ] at hbd
          have HT := hid hT; clear hT
          have HZ := hid hZ; clear hZ
          have HAC := hid hac; clear hac
          have HCC := hid hcc; clear hcc
          go_upto_if 31 with (fail)
          go_cut [] (fun wx => PBlk wx wr.heap.size T 0 ∧ Chg (NewB wr.heap.size) wr wx)
          case first =>
            have htk := pas_taken c bf b k
            rw [← HT.out] at htk
            by_cases hb0 : 0 < b
            · rw [if_neg (by omega)] at htk
              obtain ⟨q, rfl⟩ : ∃ q, b = q + 1 := ⟨b - 1, by omega⟩
              simp only [Nat.add_sub_cancel] at htk
              have HTK := hid htk; clear htk
              have hVk : (rowP c bf (q + 1) k k).length = q + 1 := by simp [rowP]
              have hok := hmat.own k hkl
              obtain ⟨ak, capk, hav, _, _⟩ := hok.shape
              rw [hav] at hok
              obtain ⟨gk, rfl, hgk1, hgk2⟩ := hok.head (by omega)
              have hov := hmat.cell k hkl
              rw [hav] at hov
              have hpk := (hok.pcell q (by omega)).2
              have e1 : (rowP c bf (q + 1) k k)[q]'(by omega) = pas c bf q k := by simp [rowP]
              rw [e1] at hpk
              rw [hVk] at hov
              clear e1 hVk hav
              go_wp2_with fail
              go_meet
              case rel =>
                rw [HTK.out]
                exact ⟨PBlk.new _ _ _, (Chg.refl _ _).alloc _⟩
            · rw [if_pos (by omega)] at htk
              have HTK := hid htk; clear htk
              go_wp2_with fail
              go_meet
              case rel =>
                rw [HTK.out]
                exact ⟨PBlk.new _ _ _, (Chg.refl _ _).alloc _⟩
          case rest =>
            obtain ⟨hpb, hcx⟩ := hcut
            obtain ⟨f0, f1, f2, f3⟩ := hpb.facts
            have hszx := hcx.size
            have hcell1 := hcx.cellNew (Nat.le_refl _) hcell
            go_upto_if 53 with (fail)
            have hpb1 := hpb.set1 (T + c[k])
            have hcx1 : Chg (NewB wr.heap.size) wr (wc.setCell ⟨wr.heap.size, 1, none⟩ (.int .i64 (T + c[k]))) := hcx.setCell (a := ⟨wr.heap.size, 1, none⟩) (fun _ => Nat.le_refl _) _
            go_cut [] (fun wx => PBlk wx wr.heap.size T Z ∧ Chg (NewB wr.heap.size) wr wx)
            case first =>
              have hlf := pas_left c bf b k
              rw [← HT.out, ← HZ.out, HAC.out] at hlf
              obtain ⟨f0', f1', f2', f3'⟩ := hpb1.facts
              by_cases hk1 : k + 1 < c.length
              · rw [if_pos hk1] at hlf
                obtain ⟨bb, ob, rfl, _, hbc⟩ := h2.ints (by omega)
                have hbcell := hcx1.cell (hch.cellNew (Nat.le_refl _) (hbc k (by omega))) (Nat.not_le_of_lt (World.block_lt_of_cell? _ _ (hch.cellNew (Nat.le_refl _) (hbc k (by omega)))))
                have hb0k := HR.out.b0 k
                have hbk : at' bf k = bf[k]'(by omega) := by simp [at', show k < bf.length by omega]
                obtain ⟨r, hr⟩ : ∃ r : Nat, bf[k]'(by omega) = (r : Int) := ⟨(bf[k]'(by omega)).toNat, by omega⟩
                rw [hr] at hbcell hbk
                rw [hbk] at hlf
                clear hbc hb0k hbk hr f0 f1 f2 f3
                by_cases hr0 : r = 0
                · subst hr0
                  rw [if_pos (by simp)] at hlf
                  by_cases hb0 : 0 < b
                  · obtain ⟨q, rfl⟩ : ∃ q, b = q + 1 := ⟨b - 1, by omega⟩
                    rw [if_neg (by omega)] at hlf
                    simp only [Nat.add_sub_cancel] at hlf
                    have HLF := hid hlf; clear hlf
                    have hVn : (rowP c bf (q + 1) k (k + 1)).length = q + 1 := by simp [rowP]
                    have hon := hmat.own (k + 1) hk1
                    obtain ⟨an, capn, han, _, _⟩ := hon.shape
                    rw [han] at hon
                    obtain ⟨gn, rfl, hgn1, hgn2⟩ := hon.head (by omega)
                    have hovn := hcx1.cell (hmat.cell (k + 1) hk1) (Nat.not_le_of_lt hgl)
                    rw [han, hVn] at hovn
                    have hpn := hcx1.cell (hon.pcell q (by omega)).2 (Nat.not_le_of_lt hgn2)
                    have e1 : (rowP c bf (q + 1) k (k + 1))[q]'(by omega) = pas c bf q (k + 1) := by simp [rowP]
                    rw [e1] at hpn
                    clear e1 hVn han
                    go_wp2_with fail
                    go_region
                    all_goals go_wp2_with fail
                    all_goals go_meet
                    case rel => rw [HLF.out]; exact ⟨hpb1.set1 _, (hcx1.setCell (a := ⟨wr.heap.size, 1, none⟩) (fun _ => Nat.le_refl _) _).drew⟩
                  · rw [if_pos (by omega)] at hlf
                    have HLF := hid hlf; clear hlf
                    have hb1 : b = 0 := by omega
                    subst hb1
                    go_wp2_with fail
                    go_meet
                    case rel => rw [HLF.out]; exact ⟨hpb1, hcx1⟩
                · rw [if_neg (by omega)] at hlf
                  by_cases hrb : r ≤ b
                  · rw [if_pos (by omega)] at hlf
                    have hr1 : ((r : Int) == 0) = false := by simp; omega
                    obtain ⟨t, rfl⟩ : ∃ t, b = t + r := ⟨b - r, by omega⟩
                    have ht1 : ((t + r : Nat) : Int) - ((r : Int)) = (t : Int) := by omega
                    have ht2 : t + r - (r : Int).toNat = t := by omega
                    rw [ht2] at hlf
                    have HLF := hid hlf; clear hlf ht2
                    have hVn : (rowP c bf (t + r) k (k + 1)).length = t + r := by simp [rowP]
                    have hon := hmat.own (k + 1) hk1
                    obtain ⟨an, capn, han, _, _⟩ := hon.shape
                    rw [han] at hon
                    obtain ⟨gn, rfl, hgn1, hgn2⟩ := hon.head (by omega)
                    have hovn := hcx1.cell (hmat.cell (k + 1) hk1) (Nat.not_le_of_lt hgl)
                    rw [han, hVn] at hovn
                    have hpn := hcx1.cell (hon.pcell t (by omega)).1 (Nat.not_le_of_lt hgn2)
                    have e1 : (rowP c bf (t + r) k (k + 1))[t]'(by omega) = pas c bf t (k + 1) := by simp [rowP]
                    rw [e1] at hpn
                    clear e1 hVn han
                    go_wp2_with fail
                    go_region
                    all_goals go_wp2_with fail
                    all_goals go_meet
                    case rel => rw [HLF.out]; exact ⟨hpb1.set1 _, (hcx1.setCell (a := ⟨wr.heap.size, 1, none⟩) (fun _ => Nat.le_refl _) _).drew⟩
                  · rw [if_neg (by omega)] at hlf
                    have HLF := hid hlf; clear hlf
                    have hr1 : ((r : Int) == 0) = false := by simp; omega
                    go_wp2_with fail
                    go_meet
                    case rel => rw [HLF.out]; exact ⟨hpb1, hcx1⟩
              · rw [if_neg hk1] at hlf
                have HLF := hid hlf; clear hlf
                go_wp2_with fail
                go_meet
                case rel => rw [HLF.out]; exact ⟨hpb1, hcx1⟩
            case rest =>
              clear hpb hcx f0 f1 f2 f3 hcell1 hpb1 hcx1 hszx
              obtain ⟨hpb, hcx⟩ := hcut
              obtain ⟨w5, rfl⟩ : ∃ w5 : World, w5 = wc := ⟨_, rfl⟩
              obtain ⟨f0, f1, f2, f3⟩ := hpb.facts
              have hszx := hcx.size
              have hVk : (rowP c bf b k k).length = b := by simp [rowP]
              have hmx : Mat w5 w.heap.size w.heap.size c.length 189 191 V (rowP c bf b k) := hmat.keep hcx fun q _ h2 h3 => Nat.not_le_of_lt h2 h3
              have hok := hmx.own k hkl
              obtain ⟨ak, capk, hav, _, _⟩ := hok.shape
              have hov := hmx.cell k hkl
              have hfz := hmx.froz k
              rw [hav] at hok
              rw [hav, hVk] at hov
              rw [hVk] at hok
              obtain ⟨i0, hi, hz0, hz1, hz2⟩ := info_parts infoPass
              have HI := hid hi; clear hi
              have HZ0 := hid hz0; clear hz0
              have HZ1 := hid hz1; clear hz1
              have HZ2 := hid hz2; clear hz2
              have HOUT := hid (hmx.out k hkl)
              rw [hav, hVk] at HOUT
              have HAV : Hid (V k = .slice ak b capk) := by unfold Hid; rw [hav, hVk]
              clear hav
              have hpout : ¬ blk (.slice ak b capk) wr.heap.size := fun x => by
                have := ((hmat.own k hkl).lt wr.heap.size (by rw [HAV.out]; exact x)).2
                omega
              have HPO := hid hpout; clear hpout
              have hlo5 : w.heap.size ≤ w5.heap.size := by omega
              have hlt5 : w.heap.size < w5.heap.size := hmx.lt
              have hVk' : (rowP c bf b k k).length ≤ 1000000000 := by omega
              have hHV := hid hVk; clear hVk
              go_wp2_with fail
              go_region_law ((refine step_append1 (α := Pass) w5.drew #[.int .i64 T, .int .i64 Z] rfl (.tmp 107) (.tmp 109) 189 191 rfl i0 (.agg #[.int .i64 0, .int .i64 0]) 16 Tryz.underlying189 HI.out HZ0.out HZ1.out HZ2.out rfl (by decide) w.heap.size (.slice ak b capk) (rowP c bf b k k) ⟨T, Z⟩ hok hlo5 hVk' ⟨rfl, rfl⟩ rfl rfl rfl ?_; intro g6 cap6 w6 hown6 hc6 hg6 hl6; have hov6 := hc6.cell hov (fun x => HOUT.out x); have hfz6 := (hc6.froz (a := ⟨w.heap.size, k, none⟩) hlt5 (fun x => HOUT.out x)).trans hfz; have hp6 := hc6.cell f1 (fun x => HPO.out x)))
              all_goals go_wp2_with fail
              all_goals
                have hfs := flow_step hkl hmx HT.out HZ.out HAV.out hown6 hc6 hg6 hch hcx
                go_roundw
                case rel => exact ⟨k + 1, _, by omega, by go_num, by rw [hfs.2.2], hfs.1, hfs.2.1⟩
                case measure => simp [intOf]; omega
        · go_wp2_with fail
          go_roundw
          case rel => exact ⟨b + 1, V, by omega, by go_num, hmat.congr fun j hj => by simp [rowP, show j < k by omega], hch⟩
          case measure => simp [intOf]; omega
    · obtain rfl : b = n := by omega
      go_wp2_with fail
      go_ret
      refine ⟨_, rfl, ?_, hch.mono fun q h1 h2 => by unfold NewB at h2; omega⟩
      have := hmat.isSl (by simp only [maxLen]; omega)
      have e : rowP c bf b 0 = fun k => (List.range b).map fun q => pas c bf q k := by funext k; simp [rowP]
      rwa [e] at this
end
section
theorem any_false {lo hi : Int} {xs : List Int} (h : xs.any (outB lo hi) = false) : ∀ k, k < xs.length → lo ≤ at' xs k ∧ at' xs k ≤ hi := by
 intro k hk
 rw [List.any_eq_false] at h
 have := h xs[k] (List.getElem_mem _)
 simp only [outB, Bool.or_eq_true, decide_eq_true_eq, not_or] at this
 simp only [at', List.getD, List.getElem?_eq_getElem hk, Option.getD_some]
 omega
theorem flowF_right {c b : List Int} {n : Int} (h : flowF c b n = 0) : RightLine c b ∧ 1 ≤ n ∧ n ≤ 2000 := by
 unfold flowF at h
 by_cases hc : cycF c ≠ 0
 ·rw [if_pos hc] at h; exact absurd h hc
 ·rw [if_neg hc] at h
  have hc' : cycF c = 0 := by simpa using hc
  unfold cycF at hc'
  by_cases h0 : c.length = 0
  ·rw [if_pos h0] at hc'; omega
  ·rw [if_neg h0] at hc'
   by_cases h6 : 6 < c.length
   ·rw [if_pos h6] at hc'; omega
   ·rw [if_neg h6] at hc'
    cases ha : c.any (outB 1 10000000) with
    | true => rw [ha] at hc'; simp at hc'
    | false =>
     by_cases hl : (b.length : Int) ≠ c.length - 1
     ·rw [if_pos hl] at h; omega
     ·rw [if_neg hl] at h
      cases hb : b.any (outB 0 2000) with
      | true => rw [hb] at h; simp at h
      | false =>
       cases hn : outB 1 2000 n with
       | true => rw [hn] at h; simp at h
       | false =>
        simp only [outB, Bool.or_eq_false_iff, decide_eq_false_iff_not] at hn
        refine ⟨⟨by omega, by omega, any_false ha, fun k => ?_, by omega⟩, by omega, by omega⟩
        by_cases hk : k < b.length
        ·exact (any_false hb k hk).1
        ·simp [at', List.getD, List.getElem?_eq_none (show b.length ≤ k by omega)]
theorem IsSl.rows {α : Type} [Enc α] {w : World} {A : Nat → Prop} {a : Option Addr} {n cap : Nat} {xs : List (List α)} (h : IsSl w A (.slice a n cap) xs) (hp : 0 < xs.length) :
  ∃ b off, a = some ⟨b, off, none⟩ ∧ A b ∧ ∀ i, (hi : i < xs.length) → ∃ v, w.cell? ⟨b, off + i, none⟩ = some v ∧ IsSl w A v xs[i] := by
 obtain ⟨b, off, ha, hb, hc⟩ := h.cells.2 hp
 refine ⟨b, off, ha, hb, fun i hi => ?_⟩
 have := hc i hi
 simpa [Enc.Is, Enc.sz] using this
theorem IsSl.passes {w : World} {A : Nat → Prop} {a : Option Addr} {n cap : Nat} {xs : List Pass} (h : IsSl w A (.slice a n cap) xs) (hp : 0 < xs.length) :
  ∃ b off, a = some ⟨b, off, none⟩ ∧ A b ∧ ∀ i, (hi : i < xs.length) → w.cell? ⟨b, off + i * 2, none⟩ = some (.int .i64 xs[i].taken) ∧ w.cell? ⟨b, off + i * 2 + 1, none⟩ = some (.int .i64 xs[i].left) := by
 obtain ⟨b, off, ha, hb, hc⟩ := h.cells.2 hp
 refine ⟨b, off, ha, hb, fun i hi => ?_⟩
 have := hc i hi
 simpa [Enc.Is, Enc.sz] using this
def leaves (c bf : List Int) (n : Nat) : List Int := (List.range n).map fun q => (pas c bf q (c.length - 1)).left
def leavesF (c bf : List Int) (n : Int) : List Int := if flowF c bf n = 0 then leaves c bf n.toNat else []
set_option maxHeartbeats 1000000 in
theorem leave_any (v1 v2 : Value) (c bf : List Int) (n : Int) (A1 A2 : Nat → Prop) (w : World) (h1 : IsSl w A1 v1 c) (h2 : IsSl w A2 v2 bf) :
  Calls Tryz.prog 32 #[v1, v2, .int .i64 n] w fun e w' => ∃ v, e = .returned (.tuple #[v, .int .i64 (flowF c bf n)]) ∧ IsSl w' (fun k => w.heap.size ≤ k) v (leavesF c bf n) ∧ Chg NoB w w' := by
 have HF := hid (flowFault_any v1 v2 c bf n A1 A2 w h1 h2)
 by_cases hf : flowF c bf n = 0
 ·obtain ⟨hr, hn1, hn2⟩ := flowF_right hf
  obtain ⟨m, rfl⟩ : ∃ m : Nat, n = m := ⟨n.toNat, by omega⟩
  have HL : Hid (leavesF c bf m = leaves c bf m) := by unfold Hid; rw [leavesF, if_pos hf]; simp
  have HFL : Hid (∀ w1, Chg NoB w w1 → _) := hid fun w1 (hc : Chg NoB w w1) => flow_any v1 v2 c bf m A1 A2 w1 (h1.keepN hc) (h2.keepN hc) hr (by omega)
  have hpos := hr.pos
  have hlen := hr.len
  rw [hf] at HF ⊢
  have HR := hid hr; clear hr hf
  go_enter Tryz.func32, Tryz.ntmps32
  go_wp2_with fail
  refine HF.out.mono ?_
  rintro e w1 ⟨rfl, hc1⟩
  go_wp2_with fail
  refine (HFL.out w1 hc1).mono ?_
  rintro e w2 ⟨v, rfl, hv, hc2⟩
  obtain ⟨a, cap, rfl, g1, g2⟩ := hv.shape
  obtain ⟨b, off, rfl, hb, hrows⟩ := hv.rows (by simp; omega)
  obtain ⟨vr, hcell, hrow⟩ := hrows (c.length - 1) (by simp; omega)
  obtain ⟨ar, capr, rfl, g3, g4⟩ := hrow.shape
  simp only [List.getElem_map, List.getElem_range, List.length_map, List.length_range] at hcell hrow g1 g3 ⊢
  have hc12 := hc1.trans hc2
  have hsz2 := hc12.size
  go_wp2_with fail
  go_loopw [10, 12, 31] (fun v _ i wr => ∃ (j : Nat), j ≤ m ∧ i = .int .i64 j ∧ Own wr w2.heap.size 3 v ((List.range j).map fun q => (pas c bf q (c.length - 1)).left) ∧ Chg (NewB w2.heap.size) w2 wr)
   (fun _ _ i _ => m - (intOf i).toNat)
  case atStart => exact ⟨0, by omega, rfl, Own.nil _ _ _, Chg.refl _ _⟩
  case round =>
   obtain ⟨j, hj, rfl, hown, hch⟩ := hrel
   have hszr := hch.size
   by_cases hjm : j < m
   ·obtain ⟨br, offr, rfl, _, hps⟩ := hrow.passes (by simp; omega)
    obtain ⟨p0, p1⟩ := hps j (by simp; omega)
    simp only [List.getElem_map, List.getElem_range] at p0 p1
    have p0' := hch.cellNew (Nat.le_refl _) p0
    have p1' := hch.cellNew (Nat.le_refl _) p1
    clear hps p0 p1
    obtain ⟨X, hX⟩ : ∃ X, X = (pas c bf j (c.length - 1)).left := ⟨_, rfl⟩
    obtain ⟨Y, hY⟩ : ∃ Y, Y = (pas c bf j (c.length - 1)).taken := ⟨_, rfl⟩
    rw [← hX] at p1'
    rw [← hY] at p0'
    have HX := hid hX; clear hX hY
    obtain ⟨av, capv, hv', _, _⟩ := hown.shape
    simp only [List.length_map, List.length_range] at hv'
    subst hv'
    have hal := hown.keep (S := NoB) ((Chg.refl NoB wr).alloc (.cells #[.int .i64 Y, .int .i64 X] 191)) (fun _ _ _ x => x)
    go_wp2_with (at_builtin; refine wpl_append_intB (wr.alloc (.cells #[.int .i64 Y, .int .i64 X] 191)) rfl _ _ 22 3 rfl Tryz.underlying22 infoInt w2.heap.size _ _ _ hal (by simp; omega) (by simp; omega) _ (by simp) j (by simp) rfl rfl ?_; intro g cap' w3 hown3 hc3 hg3 hlg)
    have hc23 : Chg (NewB w2.heap.size) w2 w3 := (hch.trans ((Chg.refl _ wr).alloc _)).trans (hc3.mono fun q hq x => (hal.lt q x).1)
    go_roundw
    case rel => exact ⟨j + 1, by omega, by go_num, by rw [List.range_succ, List.map_append]; simpa [HX.out] using hown3, hc23⟩
    case measure => simp [intOf]; omega
   ·obtain rfl : j = m := by omega
    go_wp2_with fail
    go_ret2
    exact ⟨_, rfl, by rw [HL.out]; exact hown.isSl.low fun q hq _ => by omega, hc12.trans (hch.mono fun q h1 h2 => by unfold NewB at h2; omega)⟩
 ·have hb : (flowF c bf n != 0) = true := by simp [hf]
  have HL : Hid (leavesF c bf n = []) := by unfold Hid; rw [leavesF, if_neg hf]
  clear hf
  go_enter Tryz.func32, Tryz.ntmps32
  go_wp2_with fail
  refine HF.out.mono ?_
  rintro e w1 ⟨rfl, hc1⟩
  go_wp2_with fail
  go_ret2
  exact ⟨_, rfl, by rw [HL.out]; exact IsSl.nil _ _, hc1⟩
end
section
theorem lined_flow : flowF [10, 30] [0] 2 = 0 := by decide +kernel
theorem lined_leaves : leavesF [10, 30] [0] 2 = [40, 70] := by
 rw [leavesF, if_pos lined_flow]
 have a00 : (pas [10, 30] [0] 0 0).taken = 0 := by rw [pas_taken]; simp [here]
 have b00 : (pas [10, 30] [0] 0 0).left = 10 := by rw [pas_left, a00]; simp [at']
 have a01 : (pas [10, 30] [0] 0 1).taken = 10 := by rw [pas_taken]; simp [here, b00]
 have b01 : (pas [10, 30] [0] 0 1).left = 40 := by rw [pas_left, a01]; simp [at']
 have a10 : (pas [10, 30] [0] 1 0).taken = 10 := by rw [pas_taken]; simp [here, b00]; decide
 have b10 : (pas [10, 30] [0] 1 0).left = 40 := by rw [pas_left, a10]; simp [at', b01]; decide
 have a11 : (pas [10, 30] [0] 1 1).taken = 40 := by rw [pas_taken]; simp [here, b10, b01]
 have b11 : (pas [10, 30] [0] 1 1).left = 70 := by rw [pas_left, a11]; simp [at']
 simp [leaves, List.range_succ, b01, b11]
end
section
theorem isSl_of_rep {w : World} {Z : Nat → Prop} {xs : List Int} {v : Value} (h : Rep w Z (avInts xs) v) : IsSl w Z v xs := by
 change Rep w Z (.im xs.length 1 fun j => avI (xs.getD j 0)) v at h
 generalize hn : xs.length = n at h
 cases h with
 | nil => exact .inl ⟨rfl, List.eq_nil_of_length_eq_zero hn⟩
 | im n sz f b off cap c e u hZ h1 h2 hb hc hr =>
  refine .inr ⟨b, off, cap, c, e, by rw [hn], hZ, by omega, h2, hb, fun i hi => ?_⟩
  show c[off + i * 1 + 0]? = some (.int .i64 xs[i])
  have k1 := hc i (by omega)
  have k2 := (hr i (by omega)).eq_v
  rw [k2] at k1
  simpa [hi] using k1
theorem rep_of_isSl {w : World} {A : Nat → Prop} {v : Value} {xs : List Int} (h : IsSl w A v xs) : Rep w A (avInts xs) v := by
 rcases h with ⟨rfl, rfl⟩ | ⟨b, off, cap, c, e, rfl, hb, hl, hm, hh, hi⟩
 ·exact .nil _ _
 ·refine .im _ 1 _ b off cap c e (fun j => .int .i64 (xs.getD j 0)) hb hl hm hh (fun j hj => ?_) fun j hj => .v _
  have : c[off + j * 1 + 0]? = some (.int .i64 (xs[j]'(by omega))) := hi j (by omega)
  have hj' : j < xs.length := by omega
  simpa [hj'] using this
theorem argsLLv {x y : AV} {u : Value} {w : World} {A : Nat → Prop} {us : Array Value} (h : Args w A [x, y, .v u] us) : ∃ v1 v2, us = #[v1, v2, u] ∧ Rep w (fun b => b < w.heap.size ∧ A b) x v1 ∧ Rep w (fun b => b < w.heap.size ∧ A b) y v2 := by
 obtain ⟨h1, h2⟩ := h
 have e2 := (h2 2 (by simp)).eq_v
 refine ⟨us.getD 0 undef, us.getD 1 undef, ?_, h2 0 (by simp), h2 1 (by simp)⟩
 apply Array.ext (by simpa using h1)
 intro i hi hi'
 simp at hi'
 rw [h1] at hi
 match i, hi' with
 | 0, _ => simp [Array.getD_eq_getD_getElem?, h1]
 | 1, _ => simp [Array.getD_eq_getD_getElem?, h1]
 | 2, _ => simpa [Array.getD_eq_getD_getElem?, h1] using e2
theorem line_Leave_S {c b : List Int} {n : Int} : SpecN Tryz.prog 32 [avInts c, avInts b, avI n] (fun y => y = .tup [avInts (leavesF c b n), avI (flowF c b n)]) := by
 intro w us ha
 obtain ⟨v1, v2, rfl, q1, q2⟩ := argsLLv ha
 refine (leave_any v1 v2 c b n _ _ w (isSl_of_rep q1) (isSl_of_rep q2)).mono ?_
 rintro e w' ⟨v, rfl, hv, hc⟩
 refine ⟨_, _, rfl, rfl, .tup _ _ rfl fun j hj => ?_, hc, trivial⟩
 match j, hj with
 | 0, _ => exact (rep_of_isSl hv).keep fun b hb hl => ⟨rfl, hl, fun h => absurd h (Nat.not_lt.2 hb)⟩
 | 1, _ => exact .v _
end
section
theorem rk_errs {xs : List Int} (hl : xs.length ≤ 1000000000) :
  SpecN Tryz.prog 65 [avInts xs] (fun y => y = avI (errsF xs)) := by
 refine SpecN.of_VCN Tryz.func65 rfl Tryz.ntmps65 (Nle rfl) fun w A hB => ?_
 refine VC.sr ?_
 refine VO.mb ?_
 refine VO.nil ?_
 refine VC.seq ?_
 refine VC.sr ?_
 refine VO.mw ?_
 refine VO.vv (OpV.len_im rfl Tryz.underlying262 rfl) ?_
 refine VO.mw ?_
 refine VO.nil ?_
 refine VC.block ?_
 refine VC.loopK [(5, _), (6, _)] ⟨rfl, rfl, trivial⟩ ({q : Nat // q ≤ xs.length ∧ ∀ j, j < q → xs.getD j 0 = 0}) (fun (iZ : {q : Nat // q ≤ xs.length ∧ ∀ j, j < q → xs.getD j 0 = 0}) => match iZ with | ⟨q, hq, hn⟩ => [(7, avI (q : Int))]) (fun (iZ : {q : Nat // q ≤ xs.length ∧ ∀ j, j < q → xs.getD j 0 = 0}) => match iZ with | ⟨q, hq, hn⟩ => []) (fun (iZ : {q : Nat // q ≤ xs.length ∧ ∀ j, j < q → xs.getD j 0 = 0}) => match iZ with | ⟨q, hq, hn⟩ => 0) (fun (iZ : {q : Nat // q ≤ xs.length ∧ ∀ j, j < q → xs.getD j 0 = 0}) => match iZ with | ⟨q, hq, hn⟩ => xs.length - q) ⟨0, Nat.zero_le _, fun j hj => absurd hj (Nat.not_lt_zero j)⟩ (Le.mk hB [] ⟨rfl, rfl, rfl, trivial⟩ rfl rfl (Nat.le_refl _)) ?_
 rintro ⟨q, hq, hn⟩
 show VC _ _ _ _ ⟨[(7, avI (q : Int))] ++ [(5, _), (6, _)], [], 0⟩
 refine VC.sr ?_
 refine VO.vv (OpV.lss rfl rfl rfl) ?_
 refine VO.nil ?_
 refine VC.seq ?_
 refine VC.cond rfl (fun aH1b => ?_) (fun aH1b => ?_)
 ·have aH1 := aH1b
  try simp only [qq] at aH1
  refine VC.skip ?_
  refine VC.seq ?_
  refine VC.block ?_
  refine VC.sr ?_
  refine VO.vv (OpV.indexAddr_1 rfl Tryz.underlying262 Tryz.sizeOf34 rfl rfl rfl (by omega)) ?_
  refine VO.vv (OpV.load_at rfl hB OutW.no Tryz.isAgg34 rfl rfl) ?_
  refine VO.mb ?_
  refine VO.nil ?_
  refine VC.sr ?_
  refine VO.mw ?_
  refine VO.vv (OpV.neq rfl rfl rfl) ?_
  refine VO.nil ?_
  refine VC.cond rfl (fun h1b => ?_) (fun h1b => ?_)
  ·have h1 := h1b
   try simp only [qq] at h1
   refine VC.sr ?_
   refine VO.mw ?_
   refine VO.mb ?_
   refine VO.nil ?_
   refine VC.ret ?_
   exact Exists.intro _ (And.intro (RetN.one Tryz.results65 (ResN.v rfl)) (by rw [errsF_at (q := q) (by omega) hn h1]))
  ·have h1 := h1b
   try simp only [qq] at h1
   refine VC.skip ?_
   refine VC.region ?_
   refine VO.vv (OpV.add rfl rfl rfl (by unfold fits; omega)) ?_
   refine VO.mw ?_
   refine VO.nil ?_
   exact Exists.intro (⟨q + 1, by omega, lt_succ_cases hn ((by omega))⟩) (And.intro (Le.mk hB [] ⟨rfl, rfl, rfl, trivial⟩ rfl rfl (Nat.le_refl _)) (by first | omega | (show _ < _; omega) | (simp only []; omega)))
 ·have aH1 := aH1b
  try simp only [qq] at aH1
  refine VC.exit ?_
  refine VC.sr ?_
  refine VO.mb ?_
  refine VO.nil ?_
  refine VC.ret ?_
  exact Exists.intro _ (And.intro (RetN.one Tryz.results65 (ResN.v rfl)) (by rw [errsF_none (fun j hj => hn j (by omega))]))
def rdL : List LookS := [⟨⟨#[98]⟩, ⟨#[99]⟩, 0, 1, true, ⟨#[109]⟩, ⟨#[110]⟩, ⟨#[114]⟩⟩]
theorem one_sz {α : Type} [Inhabited α] {f : α → ByteArray} {x : α} (h : (f x).size ≤ 1000000) (h0 : (f default).size ≤ 1000000) (i : Nat) : (f ([x].getD i default)).size ≤ 1000000 := by
 match i with
 | 0 => exact h
 | i + 1 => exact h0
theorem rdL_sm : SmLk rdL := ⟨by decide, one_sz (f := LookS.board) (by decide) (by decide), one_sz (f := LookS.name) (by decide) (by decide), one_sz (f := LookS.machine) (by decide) (by decide), one_sz (f := LookS.nozzle) (by decide) (by decide), one_sz (f := LookS.reel) (by decide) (by decide)⟩
theorem rdL_ok : millE rdL = 0 := by decide +kernel
theorem rdL_n : (millN rdL).1 = 1000000 := by decide +kernel
def rdP : List PaceS := [⟨⟨#[112]⟩, 10, []⟩]
def rdO : List OrdrS := [⟨⟨#[111]⟩, ⟨#[112]⟩, 3, 0, 5⟩]
theorem rdP_sm : SmPc rdP := ⟨by decide, one_sz (f := PaceS.product) (by decide) (by decide), fun i => by
 match i with
 | 0 => decide
 | i + 1 => show ([] : List NeedS).length ≤ _; decide, fun i j => by
 match i with
 | 0 => show (([] : List NeedS).getD j default).key.size ≤ _; simp; decide
 | i + 1 => show (([] : List NeedS).getD j default).key.size ≤ _; simp; decide⟩
theorem rdO_sm : SmOr rdO := ⟨by decide, one_sz (f := OrdrS.key) (by decide) (by decide), one_sz (f := OrdrS.product) (by decide) (by decide)⟩
theorem rd_sch : scheF rdP rdO [0] 1 0 = 0 := by decide +kernel
theorem rd_from : fromP rdP rdO [0] 1 0 0 = 1 := by decide +kernel
theorem rd_end : endP rdP rdO [0] 1 0 0 = 31 := by decide +kernel
theorem rd_times : timesR rdP rdO [0] 1 0 = [⟨1, 31⟩] := by
 rw [timesR, if_pos rd_sch]
 show [winP rdP rdO [0] 1 0 0] = _
 rw [winP, rd_from, rd_end]
theorem pace_nil {w : World} {Z : Nat → Prop} {u : Value} {a : ByteArray} {b : Int} (h : Rep w Z (.agg [avS a, avI b, .v (.slice none 0 0)]) u) : Rep w Z (avPc ⟨a, b, []⟩) u := by
 cases h with
 | agg cs us hl hr =>
  refine .agg _ us hl fun j hj => ?_
  match j, hj with
  | 0, _ => exact hr 0 (by simp)
  | 1, _ => exact hr 1 (by simp)
  | 2, _ =>
   have := hr 2 (by simp)
   show Rep w Z (.im 0 2 _) _
   rw [this.eq_v]; exact .nil _ _
set_option maxHeartbeats 4000000 in
theorem rk_ready   :
  SpecN Tryz.prog 22 [] (fun y => y = avB true) := by
 refine SpecN.of_VCN Tryz.func22 rfl Tryz.ntmps22 (Nle rfl) fun w A hB => ?_
 refine VC.sr ?_
 refine VO.mb ?_
 refine VO.nil ?_
 refine VC.sr ?_
 refine VO.vv (OpV.build (pls := #[(0, 1), (1, 1), (2, 1), (3, 1), (4, 1)]) rfl Tryz.zeroValue152 Tryz.underlying152 (fun w => by kernel_rfl) rfl rfl) ?_
 refine VO.op rfl (OpE.buildSlice (zc := #[.string ⟨#[]⟩, .string ⟨#[]⟩, .int .i64 0, .int .i64 0, .int .i64 0]) rfl hB rfl Tryz.underlying26 Tryz.sizeOf152 Tryz.zeroValue152 (by decide) (by decide) (by kernel_rfl) rfl rfl ?_)
 refine VO.le _ (Le.recast (t := 13) (y := avL panL) rfl (fun w Z u h => Rep.rowL (xs := panL) rfl h)) ?_
 refine VO.vv (OpV.build (pls := #[(0, 1), (1, 1), (2, 1), (3, 1)]) rfl Tryz.zeroValue28 Tryz.underlying28 (fun w => by kernel_rfl) rfl rfl) ?_
 refine VO.op rfl (OpE.call rfl hB rfl Tryz.call83 rfl (SpecN.spec (panel_Needs (p := panP) panP_sm)) ?_)
 rintro _ rfl
 refine VO.le _ (Le.recast (t := 15) (y := .tup [avL ([⟨⟨#[99, 97, 112]⟩, 1⟩] : List NeedS), avI 0]) rfl (fun w Z u h => by rw [← panP_needs, ← panP_ok]; exact h)) ?_
 refine VO.mw ?_
 refine VO.vv (OpV.extract rfl rfl rfl) ?_
 refine VO.vv (OpV.extract rfl rfl rfl) ?_
 refine VO.mb ?_
 refine VO.mb ?_
 refine VO.nil ?_
 refine VC.sr ?_
 refine VO.op rfl (bS rfl hB rfl (by decide) rfl rfl ?_)
 refine VO.le _ (Le.lS (t := 19) (xs := loadS) rfl rfl) ?_
 refine VO.op rfl (bS rfl hB rfl (by decide) rfl rfl ?_)
 refine VO.le _ (Le.lS (t := 20) (xs := [⟨#[97]⟩]) rfl rfl) ?_
 refine VO.op rfl (bS rfl hB rfl (by decide) rfl rfl ?_)
 refine VO.le _ (Le.lS (t := 21) (xs := [⟨#[98]⟩]) rfl rfl) ?_
 refine VO.op rfl (OpE.buildSlice (zc := #[.slice none 0 0, .slice none 0 0]) rfl hB rfl Tryz.underlying169 Tryz.sizeOf82 Tryz.zeroValue82 (by decide) (by decide) (by kernel_rfl) rfl rfl ?_)
 refine VO.le _ (Le.recast (t := 22) (y := avM loadP) rfl (fun w Z u h => Rep.listM (xs := loadP) rfl h)) ?_
 refine VO.op rfl (OpE.call rfl hB rfl Tryz.call84 rfl (SpecN.spec (setup_Total load_sms load_smss)) ?_)
 rintro _ rfl
 refine VO.le _ (Le.recast (t := 23) (y := .tup [avI 2, avI 0]) rfl (fun w Z u h => by rw [load_two, load_ok] at h; exact h)) ?_
 refine VO.mw ?_
 refine VO.vv (OpV.extract rfl rfl rfl) ?_
 refine VO.vv (OpV.extract rfl rfl rfl) ?_
 refine VO.mb ?_
 refine VO.mb ?_
 refine VO.nil ?_
 refine VC.sr ?_
 refine VO.op rfl (bI rfl hB rfl (by decide) rfl rfl ?_)
 refine VO.le _ (Le.lits (t := 27) (xs := [10, 30]) rfl rfl) ?_
 refine VO.op rfl (bI rfl hB rfl (by decide) rfl rfl ?_)
 refine VO.le _ (Le.lits (t := 28) (xs := [0]) rfl rfl) ?_
 refine VO.op rfl (OpE.call rfl hB rfl Tryz.call32 rfl (SpecN.spec (line_Leave_S)) ?_)
 rintro _ rfl
 refine VO.le _ (Le.recast (t := 29) (y := .tup [avInts [40, 70], avI 0]) rfl (fun w Z u h => by rw [lined_leaves, lined_flow] at h; exact h)) ?_
 refine VO.mw ?_
 refine VO.vv (OpV.extract rfl rfl rfl) ?_
 refine VO.vv (OpV.extract rfl rfl rfl) ?_
 refine VO.mb ?_
 refine VO.mb ?_
 refine VO.nil ?_
 refine VC.sr ?_
 refine VO.vv (OpV.build (pls := #[(0, 1), (1, 1), (2, 1), (3, 1), (4, 1), (5, 1), (6, 1), (7, 1)]) rfl Tryz.zeroValue124 Tryz.underlying124 (fun w => by kernel_rfl) rfl rfl) ?_
 refine VO.op rfl (OpE.buildSlice (zc := #[.string ⟨#[]⟩, .string ⟨#[]⟩, .int .i64 0, .int .i64 0, .bool false, .string ⟨#[]⟩, .string ⟨#[]⟩, .string ⟨#[]⟩]) rfl hB rfl Tryz.underlying118 Tryz.sizeOf124 Tryz.zeroValue124 (by decide) (by decide) (by kernel_rfl) rfl rfl ?_)
 refine VO.le _ (Le.recast (t := 34) (y := avL rdL) rfl (fun w Z u h => Rep.rowL (xs := rdL) rfl h)) ?_
 refine VO.op rfl (OpE.call rfl hB rfl Tryz.call85 rfl (SpecN.spec (inspect_Million rdL_sm)) ?_)
 rintro _ rfl
 refine VO.le _ (Le.recast (t := 35) (y := .tup [.agg [avI 1000000, avI ((millN rdL).2 : Int)], avI 0]) rfl (fun w Z u h => by rw [rdL_n, rdL_ok] at h; exact h)) ?_
 refine VO.mw ?_
 refine VO.vv (OpV.extract rfl rfl rfl) ?_
 refine VO.vv (OpV.extract rfl rfl rfl) ?_
 refine VO.op rfl (OpE.alloc rfl hB rfl Tryz.zeroValue171 rfl ?_)
 intro g7
 refine VO.op rfl (OpE.store (i := 0) rfl hB rfl Tryz.sizeOf171 rfl rfl rfl rfl rfl rfl (Nle rfl) trivial ?_)
 refine VO.mb ?_
 refine VO.nil ?_
 refine VC.sr ?_
 refine VO.vv (OpV.build (pls := #[(0, 1), (1, 1), (2, 1)]) rfl Tryz.zeroValue115 Tryz.underlying115 (fun w => by kernel_rfl) rfl rfl) ?_
 refine VO.le _ (Le.recast (t := 39) (y := avPc ⟨⟨#[112]⟩, 10, []⟩) rfl (fun w Z u h => pace_nil h)) ?_
 refine VO.op rfl (OpE.buildSlice (zc := #[.string ⟨#[]⟩, .int .i64 0, .slice none 0 0]) rfl hB rfl Tryz.underlying92 Tryz.sizeOf115 Tryz.zeroValue115 (by decide) (by decide) (by kernel_rfl) rfl rfl ?_)
 refine VO.le _ (Le.recast (t := 40) (y := avL rdP) rfl (fun w Z u h => Rep.rowL (xs := rdP) rfl h)) ?_
 refine VO.vv (OpV.build (pls := #[(0, 1), (1, 1), (2, 1), (3, 1), (4, 1)]) rfl Tryz.zeroValue110 Tryz.underlying110 (fun w => by kernel_rfl) rfl rfl) ?_
 refine VO.op rfl (OpE.buildSlice (zc := #[.string ⟨#[]⟩, .string ⟨#[]⟩, .int .i64 0, .int .i64 0, .int .i64 0]) rfl hB rfl Tryz.underlying93 Tryz.sizeOf110 Tryz.zeroValue110 (by decide) (by decide) (by kernel_rfl) rfl rfl ?_)
 refine VO.le _ (Le.recast (t := 42) (y := avL rdO) rfl (fun w Z u h => Rep.rowL (xs := rdO) rfl h)) ?_
 refine VO.op rfl (bI rfl hB rfl (by decide) rfl rfl ?_)
 refine VO.le _ (Le.lits (t := 43) (xs := [0]) rfl rfl) ?_
 refine VO.op rfl (OpE.call rfl hB rfl Tryz.call42 rfl (SpecN.spec (plan_Times rdP_sm rdO_sm (by decide))) ?_)
 rintro _ rfl
 refine VO.le _ (Le.recast (t := 44) (y := .tup [avL ([⟨1, 31⟩] : List WinS), avI 0]) rfl (fun w Z u h => by rw [rd_times, rd_sch] at h; exact h)) ?_
 refine VO.mw ?_
 refine VO.vv (OpV.extract rfl rfl rfl) ?_
 refine VO.vv (OpV.extract rfl rfl rfl) ?_
 refine VO.mb ?_
 refine VO.mb ?_
 refine VO.nil ?_
 refine VC.sr ?_
 refine VO.mw ?_
 refine VO.mw ?_
 refine VO.mw ?_
 refine VO.mw ?_
 refine VO.mw ?_
 refine VO.op rfl (OpE.buildSlice (zc := #[.int .i64 0, .int .i64 0, .int .i64 0, .int .i64 0, .int .i64 0]) rfl hB rfl Tryz.underlying262 Tryz.sizeOf34 Tryz.zeroValue34 (by decide) (by decide) (by kernel_rfl) rfl rfl ?_)
 refine VO.le _ (Le.lits (t := 52) (xs := [0, 0, 0, 0, 0]) rfl rfl) ?_
 refine VO.op rfl (OpE.call rfl hB rfl Tryz.call65 rfl (SpecN.spec (rk_errs (by decide))) ?_)
 rintro _ rfl
 refine VO.vv (OpV.eql rfl rfl rfl) ?_
 refine VO.le _ (Le.boolT (t := 54) rfl (decide_eq_true rfl)) ?_
 refine VO.mw ?_
 refine VO.opY rfl rfl rfl rfl rfl ?_
 refine OpE.val (W := NoB) (OpV.move (.inl rfl) rfl) rfl ?_
 refine VO.opY rfl rfl rfl rfl rfl ?_
 refine OpE.val (W := NoB) (OpV.len_im rfl Tryz.underlying68 rfl) rfl ?_
 refine VO.opY rfl rfl rfl rfl rfl ?_
 refine OpE.val (W := NoB) (OpV.eql rfl rfl rfl) rfl ?_
 refine VO.le _ (Le.boolT (t := 58) rfl (decide_eq_true rfl)) ?_
 refine VO.vv (OpV.pickT rfl rfl rfl rfl rfl) ?_
 refine VO.mw ?_
 refine VO.opY rfl rfl rfl rfl rfl ?_
 refine OpE.val (W := NoB) (OpV.move (.inl rfl) rfl) rfl ?_
 refine VO.opY rfl rfl rfl rfl rfl ?_
 refine OpE.val (W := NoB) (OpV.eql rfl rfl rfl) rfl ?_
 refine VO.le _ (Le.boolT (t := 62) rfl (decide_eq_true rfl)) ?_
 refine VO.vv (OpV.pickT rfl rfl rfl rfl rfl) ?_
 refine VO.mw ?_
 refine VO.opY rfl rfl rfl rfl rfl ?_
 refine OpE.val (W := NoB) (OpV.move (.inl rfl) rfl) rfl ?_
 refine VO.opY rfl rfl rfl rfl rfl ?_
 refine OpE.val (W := NoB) (OpV.len_im rfl Tryz.underlying22 rfl) rfl ?_
 refine VO.opY rfl rfl rfl rfl rfl ?_
 refine OpE.val (W := NoB) (OpV.eql rfl rfl rfl) rfl ?_
 refine VO.le _ (Le.boolT (t := 67) rfl (decide_eq_true rfl)) ?_
 refine VO.vv (OpV.pickT rfl rfl rfl rfl rfl) ?_
 refine VO.mw ?_
 refine VO.opY rfl rfl rfl rfl rfl ?_
 refine OpE.val (W := NoB) (OpV.fieldAddrO 0 rfl Tryz.underlying171 rfl rfl Tryz.sizeOf3 rfl) rfl ?_
 refine VO.opY rfl rfl rfl rfl rfl ?_
 refine OpE.val (W := NoB) (OpV.load_own (i := 0) rfl hB Tryz.isAgg3 rfl rfl rfl (fun h => h)) rfl ?_
 refine VO.opY rfl rfl rfl rfl rfl ?_
 refine OpE.val (W := NoB) (OpV.eql rfl rfl rfl) rfl ?_
 refine VO.le _ (Le.boolT (t := 72) rfl (decide_eq_true rfl)) ?_
 refine VO.vv (OpV.pickT rfl rfl rfl rfl rfl) ?_
 refine VO.mw ?_
 refine VO.opY rfl rfl rfl rfl rfl ?_
 refine OpE.val (W := NoB) (OpV.move (.inl rfl) rfl) rfl ?_
 refine VO.opY rfl rfl rfl rfl rfl ?_
 refine OpE.val (W := NoB) (OpV.len_im rfl Tryz.underlying99 rfl) rfl ?_
 refine VO.opY rfl rfl rfl rfl rfl ?_
 refine OpE.val (W := NoB) (OpV.eql rfl rfl rfl) rfl ?_
 refine VO.le _ (Le.boolT (t := 77) rfl (decide_eq_true rfl)) ?_
 refine VO.vv (OpV.pickT rfl rfl rfl rfl rfl) ?_
 refine VO.mw ?_
 refine VO.opY rfl rfl rfl rfl rfl ?_
 refine OpE.val (W := NoB) (OpV.move (.inl rfl) rfl) rfl ?_
 refine VO.opY rfl rfl rfl rfl rfl ?_
 refine OpE.val (W := NoB) (OpV.indexAddr_E rfl Tryz.underlying99 Tryz.sizeOf104 rfl rfl rfl (by show 0 < 1; decide)) rfl ?_
 refine VO.opY rfl rfl rfl rfl rfl ?_
 refine OpE.val (W := NoB) (OpV.fieldAddr_atO 1 rfl Tryz.underlying104 rfl rfl Tryz.sizeOf3 rfl rfl) rfl ?_
 refine VO.opY rfl rfl rfl rfl rfl ?_
 refine OpE.val (W := NoB) (OpV.load_at rfl hB OutW.no Tryz.isAgg3 rfl rfl) rfl ?_
 refine VO.opY rfl rfl rfl rfl rfl ?_
 refine OpE.val (W := NoB) (OpV.eql rfl rfl rfl) rfl ?_
 refine VO.le _ (Le.boolT (t := 84) rfl (decide_eq_true rfl)) ?_
 refine VO.vv (OpV.pickT rfl rfl rfl rfl rfl) ?_
 refine VO.mb ?_
 refine VO.nil ?_
 refine VC.ret ?_
 exact Exists.intro _ (And.intro (RetN.one Tryz.results22 (ResN.v rfl)) (rfl))
end
section
theorem VC.newB {P : Program} {w : World} {A : Nat → Prop} {nt i g : Nat} {c : Code} {Q : Exit → St' → Prop} {s : St'} {e : Ent} (hi : s.hp[i]? = some e) (hg : e.blk = some g) (h : w.heap.size ≤ g → VC P (B0 w A nt) c Q s) : VC P (B0 w A nt) c Q s := fun a w1 hr =>
 h (Nat.not_lt.1 (hr.isNew (fun b h => h) (List.mem_of_getElem? hi) hg)) a w1 hr
end
section
theorem Le.erase {B : Bs} {s : St'} (i : Nat) : Le B s ⟨s.sl, s.hp.eraseIdx i, s.k⟩ := fun a w hr => hr.erase i
end
section
theorem VA.hap {P : Program} {B : Bs} {s : St'} {V : Nat → Nat → Prop} {ops : Array Oper} {Q : Exit → St' → Prop} {n : Nat} {L : Array Bool} (h : Apart s.hp → VA P B V ops Q n L s) : VA P B V ops Q n L s := fun a w hr => h hr.nodup a w hr
def eqBd (x y : BodyS) : Bool := sEq x.part y.part && (decide (x.wide = y.wide) && (decide (x.high = y.high) && true))
theorem eqBd_self (x : BodyS) : eqBd x x = true := by simp [eqBd, sEq_refl]
theorem pn_join {L : List Int} {pr : ProdS} {n : PanS} {K1 K2 g1 g2 cap : Nat} {a0 : Option Addr} {A B C D : Ent} (hN : rpnV L pr 6 K1 = (n, K2)) : [bxStr g2 a0 cap L (rpnV L pr 6 K1).2, bxStr g1 a0 cap L (rpnV L pr 6 K1).2, A, B, C, D].Perm [bxStr g1 a0 cap L K2, bxStr g2 a0 cap L K2, A, B, C, D] := by
 rw [hN]; exact List.Perm.swap _ _ _
theorem pn_join2 {L : List Int} {pr : ProdS} {n : PanS} {K1 K2 g1 g2 cap : Nat} {a0 : Option Addr} {A B C D : Ent} (hN : rpnV L pr 6 K1 = (n, K2)) : [bxStr g2 a0 cap L (rpnV L pr 6 K1).2, bxStr g1 a0 cap L (rpnV L pr 6 K1).2, A, B, D, C].Perm [bxStr g1 a0 cap L K2, bxStr g2 a0 cap L K2, A, B, C, D] := by
 rw [hN]; exact (List.Perm.swap _ _ _).trans (List.Perm.cons _ (List.Perm.cons _ (List.Perm.cons _ (List.Perm.cons _ (List.Perm.swap _ _ _)))))
theorem slices_Equal_bd {xs ys : List BodyS} (hl : xs.length ≤ 1000000000) (hl' : ys.length ≤ 1000000000) :
  SpecN Tryz.prog 21 [avL xs, avL ys] (fun y => y = avB (eqLs eqBd xs ys)) := by
 refine SpecN.of_VCN Tryz.func21 rfl Tryz.ntmps21 (Nle rfl) fun w A hB => ?_
 refine VC.sr ?_
 refine VO.mb ?_
 refine VO.nil ?_
 refine VC.seq ?_
 refine VC.sr ?_
 refine VO.mw ?_
 refine VO.vv (OpV.len_im rfl Tryz.underlying51 rfl) ?_
 refine VO.mw ?_
 refine VO.vv (OpV.len_im rfl Tryz.underlying51 rfl) ?_
 refine VO.vv (OpV.neq rfl rfl rfl) ?_
 refine VO.nil ?_
 refine VC.cond rfl (fun aH1b => ?_) (fun aH1b => ?_)
 ·have aH1 := aH1b
  try simp only [qq] at aH1
  refine VC.sr ?_
  refine VO.mb ?_
  refine VO.nil ?_
  refine VC.ret ?_
  exact Exists.intro _ (And.intro (RetN.one Tryz.results21 (ResN.v rfl)) (by first | rw [eqLs_len (by omega)] | rw [eqLs_at (d := default) (q := q) (by omega) (not_true_false h2b)] | rw [eqLs_all (d := default) (by omega) (fun j hj => hn j (by omega))]))
 ·have aH1 := aH1b
  try simp only [qq] at aH1
  refine VC.skip ?_
  refine VC.seq ?_
  refine VC.sr ?_
  refine VO.mw ?_
  refine VO.vv (OpV.len_im rfl Tryz.underlying51 rfl) ?_
  refine VO.mw ?_
  refine VO.nil ?_
  refine VC.block ?_
  refine VC.loopK [(0, _), (1, _), (12, _)] ⟨rfl, rfl, rfl, trivial⟩ ({q : Nat // q ≤ xs.length ∧ ∀ j, j < q → eqBd (xs.getD j default) (ys.getD j default) = true}) (fun (iZ : {q : Nat // q ≤ xs.length ∧ ∀ j, j < q → eqBd (xs.getD j default) (ys.getD j default) = true}) => match iZ with | ⟨q, hq, hn⟩ => [(13, avI (q : Int))]) (fun (iZ : {q : Nat // q ≤ xs.length ∧ ∀ j, j < q → eqBd (xs.getD j default) (ys.getD j default) = true}) => match iZ with | ⟨q, hq, hn⟩ => []) (fun (iZ : {q : Nat // q ≤ xs.length ∧ ∀ j, j < q → eqBd (xs.getD j default) (ys.getD j default) = true}) => match iZ with | ⟨q, hq, hn⟩ => 0) (fun (iZ : {q : Nat // q ≤ xs.length ∧ ∀ j, j < q → eqBd (xs.getD j default) (ys.getD j default) = true}) => match iZ with | ⟨q, hq, hn⟩ => xs.length - q) ⟨0, Nat.zero_le _, fun j hj => absurd hj (Nat.not_lt_zero j)⟩ (Le.mk hB [] ⟨rfl, rfl, rfl, rfl, trivial⟩ rfl rfl (Nat.le_refl _)) ?_
  rintro ⟨q, hq, hn⟩
  show VC _ _ _ _ ⟨[(13, avI (q : Int))] ++ [(0, _), (1, _), (12, _)], [], 0⟩
  refine VC.sr ?_
  refine VO.vv (OpV.lss rfl rfl rfl) ?_
  refine VO.nil ?_
  refine VC.seq ?_
  refine VC.cond rfl (fun aH2b => ?_) (fun aH2b => ?_)
  ·have aH2 := aH2b
   try simp only [qq] at aH2
   refine VC.skip ?_
   refine VC.seq ?_
   refine VC.block ?_
   refine VC.sr ?_
   refine VO.mw ?_
   refine VO.mb ?_
   refine VO.nil ?_
   refine VC.seq ?_
   refine VC.draw (fun _ => NoB) hB (by kernel_rfl) ?_
   refine VA.tk (i := 0) rfl (OpV.move (.inl rfl) rfl) ?_
   refine VA.tk (i := 1) rfl (OpV.move (.inl rfl) rfl) ?_
   refine VA.tk (i := 2) rfl (OpV.indexAddr_E rfl Tryz.underlying51 Tryz.sizeOf63 rfl rfl rfl (by omega)) ?_
   refine VA.tk (i := 3) rfl (OpV.loadK_at rfl hB OutW.wi0 Tryz.isAgg63 Tryz.sizeOf63 rfl rfl) ?_
   refine VA.tk (i := 4) rfl (OpV.move (.inl rfl) rfl) ?_
   refine VA.tk (i := 5) rfl (OpV.move (.inl rfl) rfl) ?_
   refine VA.tk (i := 6) rfl (OpV.indexAddr_E rfl Tryz.underlying51 Tryz.sizeOf63 rfl rfl rfl (by omega)) ?_
   refine VA.tk (i := 7) rfl (OpV.loadK_at rfl hB OutW.wi0 Tryz.isAgg63 Tryz.sizeOf63 rfl rfl) ?_
   refine VA.tk (i := 8) rfl (OpV.aneq rfl Tryz.underlying63 (by kernel_rfl) (by kernel_rfl) rfl rfl (EqFs.str Tryz.underlying9 Tryz.isAgg9 rfl (by decide) (EqFs.int Tryz.underlying3 Tryz.isAgg3 rfl (by decide) (EqFs.int Tryz.underlying3 Tryz.isAgg3 rfl (by decide) (EqFs.nil _))))) ?_
   refine VA.done (by kernel_rfl) ?_
   refine VC.cond rfl (fun h2b => ?_) (fun h2b => ?_)
   ·have h2 := h2b
    try simp only [qq] at h2
    refine VC.sr ?_
    refine VO.mb ?_
    refine VO.nil ?_
    refine VC.ret ?_
    exact Exists.intro _ (And.intro (RetN.one Tryz.results21 (ResN.v rfl)) (by first | rw [eqLs_len (by omega)] | rw [eqLs_at (d := default) (q := q) (by omega) (not_true_false h2b)] | rw [eqLs_all (d := default) (by omega) (fun j hj => hn j (by omega))]))
   ·have h2 := h2b
    try simp only [qq] at h2
    refine VC.skip ?_
    refine VC.region ?_
    refine VO.vv (OpV.add rfl rfl rfl (by unfold fits; omega)) ?_
    refine VO.mw ?_
    refine VO.nil ?_
    exact Exists.intro (⟨q + 1, by omega, lt_succ_cases hn (not_false_true h2b)⟩) (And.intro (Le.mk hB [] ⟨rfl, rfl, rfl, rfl, trivial⟩ rfl rfl (Nat.le_refl _)) (by first | omega | (show _ < _; omega) | (simp only []; omega)))
  ·have aH2 := aH2b
   try simp only [qq] at aH2
   refine VC.exit ?_
   refine VC.sr ?_
   refine VO.mb ?_
   refine VO.nil ?_
   refine VC.ret ?_
   exact Exists.intro _ (And.intro (RetN.one Tryz.results21 (ResN.v rfl)) (by first | rw [eqLs_len (by omega)] | rw [eqLs_at (d := default) (q := q) (by omega) (not_true_false h2b)] | rw [eqLs_all (d := default) (by omega) (fun j hj => hn j (by omega))]))
set_option maxHeartbeats 40000000 in
theorem panelsStay_any (a0 : Option Addr) (cap0 : Nat) (L : List Int) (w : World) (hin : Inp w a0 L) :
    Calls Tryz.prog 3 #[.slice a0 L.length cap0] w fun e w' => e = .returned (.bool true) ∧ Chg NoB w w' := by
  refine law_calls Tryz.func3 rfl Tryz.ntmps3 (Nle rfl) Tryz.results3 ?_
  have hB := B0.ok w (fun _ => True) 88
  refine VC.sr ?_
  refine VO.mb ?_
  refine VO.nil ?_
  refine VC.sr ?_
  refine VO.mw ?_
  refine VO.vv (OpV.build (pls := #[(0, 1), (1, 1)]) rfl Tryz.zeroValue25 Tryz.underlying25 (fun w => by kernel_rfl) rfl rfl) ?_
  refine VO.op rfl (OpE.box rfl hB rfl rfl rfl ?_)
  intro g1
  refine VO.mw ?_
  refine VO.vv (OpV.build (pls := #[(0, 1), (1, 1)]) rfl Tryz.zeroValue25 Tryz.underlying25 (fun w => by kernel_rfl) rfl rfl) ?_
  refine VO.op rfl (OpE.box rfl hB rfl rfl rfl ?_)
  intro g2
  refine VO.mb ?_
  refine VO.mb ?_
  refine VO.nil ?_
  refine VC.newB (i := 0) (g := g1) rfl rfl (fun hg1 => ?_)
  refine VC.newB (i := 1) (g := g2) rfl rfl (fun hg2 => ?_)
  have hGX := txi_base (A := fun _ => True) (nt := 88) hin
  obtain ⟨⟨hsm, hpl, hp0⟩, hk1⟩ := rpV_ok (L := L) 6 0
  obtain ⟨⟨pr, K1⟩, hP⟩ : ∃ z, rpV L 6 0 = z := ⟨_, rfl⟩
  rw [hP] at hsm hpl hp0 hk1
  simp only at hsm hpl hp0 hk1
  obtain ⟨hnl, hn0, hk2⟩ := rpnV_ok (L := L) (pr := pr) hp0 6 K1
  obtain ⟨⟨n, K2⟩, hN⟩ : ∃ z, rpnV L pr 6 K1 = z := ⟨_, rfl⟩
  rw [hN] at hnl hn0 hk2
  simp only at hnl hn0 hk2
  obtain ⟨⟨hbs, hbl⟩, _⟩ := bdV_ok (L := L) (k := K2)
  obtain ⟨bd, hbe⟩ : ∃ z, (bdV L K2).1 = z := ⟨_, rfl⟩
  rw [hbe] at hbs hbl
  refine VC.sr ?_
  refine VO.mw ?_
  refine VO.op rfl (OpE.callHX (rest := [_]) txi_stab hGX rfl hB rfl Tryz.call8 rfl rfl (rightProduct_E (k := 0) (p := g1) (a0 := a0) (cap := cap0) (L := L) (by omega) hg1) (List.Perm.refl _) (fun _ _ => trivial) ?_)
  rintro _ _ ⟨rfl, e26, rfl⟩
  refine VO.le _ (Le.recast (t := 26) (y := avProd pr) rfl (fun w Z u h => by rw [hP] at h; exact h)) ?_
  refine VO.le _ (Le.pickH [2, 0] rfl rfl) ?_
  refine VO.le _ (Le.perm (hp := [bxStr g2 a0 cap0 L 0, bxStr g1 a0 cap0 L K1]) (by have e : (rpV L 6 0).2 = K1 := by { rw [hP] }; show [_, bxStr g1 a0 cap0 L (rpV L 6 0).2].Perm _; rw [e] <;> exact List.Perm.refl _)) ?_
  refine VO.mw ?_
  refine VO.op rfl (OpE.callHX (rest := [_]) txi_stab hGX rfl hB rfl Tryz.call8 rfl rfl (rightProduct_E (k := 0) (p := g2) (a0 := a0) (cap := cap0) (L := L) (by omega) hg2) (List.Perm.refl _) (fun _ _ => trivial) ?_)
  rintro _ _ ⟨rfl, e28, rfl⟩
  refine VO.le _ (Le.recast (t := 28) (y := avProd pr) rfl (fun w Z u h => by rw [hP] at h; exact h)) ?_
  refine VO.le _ (Le.pickH [2, 0] rfl rfl) ?_
  refine VO.le _ (Le.perm (hp := [bxStr g1 a0 cap0 L K1, bxStr g2 a0 cap0 L K1]) (by have e : (rpV L 6 0).2 = K1 := by { rw [hP] }; show [_, bxStr g2 a0 cap0 L (rpV L 6 0).2].Perm _; rw [e] <;> exact List.Perm.refl _)) ?_
  refine VO.op rfl (OpE.alloc rfl hB rfl Tryz.zeroValue28 rfl ?_)
  intro g5
  refine VO.op rfl (OpE.alloc rfl hB rfl Tryz.zeroValue28 rfl ?_)
  intro g6
  refine VO.op rfl (OpE.store (i := 2) rfl hB rfl Tryz.sizeOf28 rfl rfl rfl rfl rfl rfl (Nle rfl) trivial ?_)
  refine VO.op rfl (OpE.store (i := 3) rfl hB rfl Tryz.sizeOf28 rfl rfl rfl rfl rfl rfl (Nle rfl) trivial ?_)
  refine VO.nil ?_
  refine VC.joinI (Nat × Nat) (fun (iZ : Nat × Nat) => match iZ with | ⟨g7, g8⟩ => ⟨[(2, .v (.bool false)), (3, sp g1), (4, sp g2), (5, .v (.pointer (some ⟨g5, 0, none⟩))), (6, .v (.pointer (some ⟨g6, 0, none⟩))), (7, .v (.pointer (some ⟨g7, 0, none⟩))), (8, .v (.pointer (some ⟨g8, 0, none⟩)))], [bxStr g1 a0 cap0 L K2, bxStr g2 a0 cap0 L K2, boxProd g5 pr 28, boxProd g6 pr 28, boxPan g7 n 32, boxPan g8 n 32], 0⟩) ?_ ?_
  ·
    refine VC.hap (fun hap => ?_)
    have n51 := apart_ne hap (i := 2) (j := 0) rfl rfl (by decide)
    have n52 := apart_ne hap (i := 2) (j := 1) rfl rfl (by decide)
    have n61 := apart_ne hap (i := 3) (j := 0) rfl rfl (by decide)
    have n62 := apart_ne hap (i := 3) (j := 1) rfl rfl (by decide)
    refine VC.draw (fun jj b => (jj = 2 ∧ b = g1) ∨ (jj = 5 ∧ b = g2) ∨ (jj ∈ [8, 9] ∧ b ≠ g5 ∧ b ≠ g6)) hB (by kernel_rfl) ?_
    refine VA.tk (i := 0) rfl (OpV.move (.inl rfl) rfl) ?_
    refine VA.tk (i := 1) rfl (OpV.loadK_own (i := 2) rfl hB Tryz.isAgg28 Tryz.sizeOf28 rfl rfl rfl (fun ⟨jj, _, h⟩ => h.elim (fun h => n51 h.2) fun h => h.elim (fun h => n52 h.2) fun h => h.2.1 rfl)) ?_
    refine VA.tk (i := 3) rfl (OpV.move (.inl rfl) rfl) ?_
    refine VA.tk (i := 4) rfl (OpV.loadK_own (i := 3) rfl hB Tryz.isAgg28 Tryz.sizeOf28 rfl rfl rfl (fun ⟨jj, _, h⟩ => h.elim (fun h => n61 h.2) fun h => h.elim (fun h => n62 h.2) fun h => h.2.2 rfl)) ?_
    refine VA.all (rs := [2, 6, 7]) (by kernel_rfl) (by decide) ?_
    refine ⟨⟨_, rfl, .inl rfl, ?_⟩, ⟨_, rfl, .inl rfl, ?_⟩, ⟨_, rfl, .inl rfl, ?_⟩, trivial⟩
    ·
      refine OpE.callHX (rest := _ :: _) txi_stab hGX rfl hB rfl Tryz.call9 rfl rfl (rightPanel_E (k := K1) (pr := pr) (p := g1) (a0 := a0) (cap := cap0) (L := L) (by omega) hsm hp0 hg1) (List.Perm.refl _) (fun b h => .inl ⟨rfl, blkStr h⟩) ?_
      rintro _ _ ⟨rfl, e31, rfl⟩
      refine VA.le _ (Le.recast (t := 31) (y := avPan n) rfl (fun w Z u h => by rw [hN] at h; exact h)) ?_
      refine VA.le _ (Le.erase 1) ?_
      refine VA.all (rs := [5, 6, 7]) (by kernel_rfl) (by decide) ?_
      refine ⟨⟨_, rfl, .inl rfl, ?_⟩, ⟨_, rfl, .inl rfl, ?_⟩, ⟨_, rfl, .inl rfl, ?_⟩, trivial⟩
      ·
        refine OpE.callHX (rest := _ :: _) txi_stab hGX rfl hB rfl Tryz.call9 rfl rfl (rightPanel_E (k := K1) (pr := pr) (p := g2) (a0 := a0) (cap := cap0) (L := L) (by omega) hsm hp0 hg2) (List.Perm.swap _ _ _) (fun b h => .inr (.inl ⟨rfl, blkStr h⟩)) ?_
        rintro _ _ ⟨rfl, e34, rfl⟩
        refine VA.le _ (Le.recast (t := 34) (y := avPan n) rfl (fun w Z u h => by rw [hN] at h; exact h)) ?_
        refine VA.le _ (Le.erase 1) ?_
        refine VA.all (rs := [6, 7]) (by kernel_rfl) (by decide) ?_
        refine ⟨⟨_, rfl, .inl rfl, ?_⟩, ⟨_, rfl, .inl rfl, ?_⟩, trivial⟩
        ·
          refine OpE.alloc rfl hB rfl Tryz.zeroValue32 rfl ?_
          intro g7
          refine VA.hap (fun hap => ?_)
          refine VA.all (rs := [7]) (by kernel_rfl) (by decide) ?_
          refine ⟨⟨_, rfl, .inl rfl, ?_⟩, trivial⟩
          refine OpE.alloc rfl hB rfl Tryz.zeroValue32 rfl ?_
          intro g8
          refine VA.hap (fun hap => ?_)
          refine VA.all (rs := [8]) (by kernel_rfl) (by decide) ?_
          refine ⟨⟨_, rfl, .inl rfl, ?_⟩, trivial⟩
          refine OpE.hap (fun hap => ?_)
          refine OpE.store (i := 4) rfl hB rfl Tryz.sizeOf32 rfl rfl rfl rfl rfl rfl (Nle rfl) (by first | exact .inr (.inr ⟨by decide, apart_ne hap (i := 4) (j := 2) rfl rfl (by decide), apart_ne hap (i := 4) (j := 3) rfl rfl (by decide)⟩) | exact .inr (.inr ⟨by decide, apart_ne hap (i := 5) (j := 2) rfl rfl (by decide), apart_ne hap (i := 5) (j := 3) rfl rfl (by decide)⟩)) ?_
          refine VA.all (rs := [9]) (by kernel_rfl) (by decide) ?_
          refine ⟨⟨_, rfl, .inl rfl, ?_⟩, trivial⟩
          refine OpE.hap (fun hap => ?_)
          refine OpE.store (i := 5) rfl hB rfl Tryz.sizeOf32 rfl rfl rfl rfl rfl rfl (Nle rfl) (by first | exact .inr (.inr ⟨by decide, apart_ne hap (i := 4) (j := 2) rfl rfl (by decide), apart_ne hap (i := 4) (j := 3) rfl rfl (by decide)⟩) | exact .inr (.inr ⟨by decide, apart_ne hap (i := 5) (j := 2) rfl rfl (by decide), apart_ne hap (i := 5) (j := 3) rfl rfl (by decide)⟩)) ?_
          refine VA.done (by kernel_rfl) ?_
          exact Exists.intro (⟨g7, g8⟩) (Le.mkP hB ⟨rfl, rfl, rfl, rfl, rfl, rfl, rfl, trivial⟩ (List.Sublist.refl _) (by first | exact pn_join hN | exact pn_join2 hN) (Nle rfl))
        ·
          refine OpE.alloc rfl hB rfl Tryz.zeroValue32 rfl ?_
          intro g8
          refine VA.hap (fun hap => ?_)
          refine VA.all (rs := [6]) (by kernel_rfl) (by decide) ?_
          refine ⟨⟨_, rfl, .inl rfl, ?_⟩, trivial⟩
          refine OpE.alloc rfl hB rfl Tryz.zeroValue32 rfl ?_
          intro g7
          refine VA.hap (fun hap => ?_)
          refine VA.all (rs := [8]) (by kernel_rfl) (by decide) ?_
          refine ⟨⟨_, rfl, .inl rfl, ?_⟩, trivial⟩
          refine OpE.hap (fun hap => ?_)
          refine OpE.store (i := 5) rfl hB rfl Tryz.sizeOf32 rfl rfl rfl rfl rfl rfl (Nle rfl) (by first | exact .inr (.inr ⟨by decide, apart_ne hap (i := 4) (j := 2) rfl rfl (by decide), apart_ne hap (i := 4) (j := 3) rfl rfl (by decide)⟩) | exact .inr (.inr ⟨by decide, apart_ne hap (i := 5) (j := 2) rfl rfl (by decide), apart_ne hap (i := 5) (j := 3) rfl rfl (by decide)⟩)) ?_
          refine VA.all (rs := [9]) (by kernel_rfl) (by decide) ?_
          refine ⟨⟨_, rfl, .inl rfl, ?_⟩, trivial⟩
          refine OpE.hap (fun hap => ?_)
          refine OpE.store (i := 4) rfl hB rfl Tryz.sizeOf32 rfl rfl rfl rfl rfl rfl (Nle rfl) (by first | exact .inr (.inr ⟨by decide, apart_ne hap (i := 4) (j := 2) rfl rfl (by decide), apart_ne hap (i := 4) (j := 3) rfl rfl (by decide)⟩) | exact .inr (.inr ⟨by decide, apart_ne hap (i := 5) (j := 2) rfl rfl (by decide), apart_ne hap (i := 5) (j := 3) rfl rfl (by decide)⟩)) ?_
          refine VA.done (by kernel_rfl) ?_
          exact Exists.intro (⟨g7, g8⟩) (Le.mkP hB ⟨rfl, rfl, rfl, rfl, rfl, rfl, rfl, trivial⟩ (List.Sublist.refl _) (by first | exact pn_join hN | exact pn_join2 hN) (Nle rfl))
      ·
        refine OpE.alloc rfl hB rfl Tryz.zeroValue32 rfl ?_
        intro g7
        refine VA.hap (fun hap => ?_)
        refine VA.all (rs := [5, 7]) (by kernel_rfl) (by decide) ?_
        refine ⟨⟨_, rfl, .inl rfl, ?_⟩, ⟨_, rfl, .inl rfl, ?_⟩, trivial⟩
        ·
          refine OpE.callHX (rest := _ :: _) txi_stab hGX rfl hB rfl Tryz.call9 rfl rfl (rightPanel_E (k := K1) (pr := pr) (p := g2) (a0 := a0) (cap := cap0) (L := L) (by omega) hsm hp0 hg2) (List.Perm.swap _ _ _) (fun b h => .inr (.inl ⟨rfl, blkStr h⟩)) ?_
          rintro _ _ ⟨rfl, e34, rfl⟩
          refine VA.le _ (Le.recast (t := 34) (y := avPan n) rfl (fun w Z u h => by rw [hN] at h; exact h)) ?_
          refine VA.le _ (Le.erase 1) ?_
          refine VA.all (rs := [7]) (by kernel_rfl) (by decide) ?_
          refine ⟨⟨_, rfl, .inl rfl, ?_⟩, trivial⟩
          refine OpE.alloc rfl hB rfl Tryz.zeroValue32 rfl ?_
          intro g8
          refine VA.hap (fun hap => ?_)
          refine VA.all (rs := [8]) (by kernel_rfl) (by decide) ?_
          refine ⟨⟨_, rfl, .inl rfl, ?_⟩, trivial⟩
          refine OpE.hap (fun hap => ?_)
          refine OpE.store (i := 4) rfl hB rfl Tryz.sizeOf32 rfl rfl rfl rfl rfl rfl (Nle rfl) (by first | exact .inr (.inr ⟨by decide, apart_ne hap (i := 4) (j := 2) rfl rfl (by decide), apart_ne hap (i := 4) (j := 3) rfl rfl (by decide)⟩) | exact .inr (.inr ⟨by decide, apart_ne hap (i := 5) (j := 2) rfl rfl (by decide), apart_ne hap (i := 5) (j := 3) rfl rfl (by decide)⟩)) ?_
          refine VA.all (rs := [9]) (by kernel_rfl) (by decide) ?_
          refine ⟨⟨_, rfl, .inl rfl, ?_⟩, trivial⟩
          refine OpE.hap (fun hap => ?_)
          refine OpE.store (i := 5) rfl hB rfl Tryz.sizeOf32 rfl rfl rfl rfl rfl rfl (Nle rfl) (by first | exact .inr (.inr ⟨by decide, apart_ne hap (i := 4) (j := 2) rfl rfl (by decide), apart_ne hap (i := 4) (j := 3) rfl rfl (by decide)⟩) | exact .inr (.inr ⟨by decide, apart_ne hap (i := 5) (j := 2) rfl rfl (by decide), apart_ne hap (i := 5) (j := 3) rfl rfl (by decide)⟩)) ?_
          refine VA.done (by kernel_rfl) ?_
          exact Exists.intro (⟨g7, g8⟩) (Le.mkP hB ⟨rfl, rfl, rfl, rfl, rfl, rfl, rfl, trivial⟩ (List.Sublist.refl _) (by first | exact pn_join hN | exact pn_join2 hN) (Nle rfl))
        ·
          refine OpE.alloc rfl hB rfl Tryz.zeroValue32 rfl ?_
          intro g8
          refine VA.hap (fun hap => ?_)
          refine VA.all (rs := [5]) (by kernel_rfl) (by decide) ?_
          refine ⟨⟨_, rfl, .inl rfl, ?_⟩, trivial⟩
          refine OpE.callHX (rest := _ :: _) txi_stab hGX rfl hB rfl Tryz.call9 rfl rfl (rightPanel_E (k := K1) (pr := pr) (p := g2) (a0 := a0) (cap := cap0) (L := L) (by omega) hsm hp0 hg2) (List.Perm.swap _ _ _) (fun b h => .inr (.inl ⟨rfl, blkStr h⟩)) ?_
          rintro _ _ ⟨rfl, e34, rfl⟩
          refine VA.le _ (Le.recast (t := 34) (y := avPan n) rfl (fun w Z u h => by rw [hN] at h; exact h)) ?_
          refine VA.le _ (Le.erase 1) ?_
          refine VA.all (rs := [8]) (by kernel_rfl) (by decide) ?_
          refine ⟨⟨_, rfl, .inl rfl, ?_⟩, trivial⟩
          refine OpE.hap (fun hap => ?_)
          refine OpE.store (i := 4) rfl hB rfl Tryz.sizeOf32 rfl rfl rfl rfl rfl rfl (Nle rfl) (by first | exact .inr (.inr ⟨by decide, apart_ne hap (i := 4) (j := 2) rfl rfl (by decide), apart_ne hap (i := 4) (j := 3) rfl rfl (by decide)⟩) | exact .inr (.inr ⟨by decide, apart_ne hap (i := 5) (j := 2) rfl rfl (by decide), apart_ne hap (i := 5) (j := 3) rfl rfl (by decide)⟩)) ?_
          refine VA.all (rs := [9]) (by kernel_rfl) (by decide) ?_
          refine ⟨⟨_, rfl, .inl rfl, ?_⟩, trivial⟩
          refine OpE.hap (fun hap => ?_)
          refine OpE.store (i := 5) rfl hB rfl Tryz.sizeOf32 rfl rfl rfl rfl rfl rfl (Nle rfl) (by first | exact .inr (.inr ⟨by decide, apart_ne hap (i := 4) (j := 2) rfl rfl (by decide), apart_ne hap (i := 4) (j := 3) rfl rfl (by decide)⟩) | exact .inr (.inr ⟨by decide, apart_ne hap (i := 5) (j := 2) rfl rfl (by decide), apart_ne hap (i := 5) (j := 3) rfl rfl (by decide)⟩)) ?_
          refine VA.done (by kernel_rfl) ?_
          exact Exists.intro (⟨g7, g8⟩) (Le.mkP hB ⟨rfl, rfl, rfl, rfl, rfl, rfl, rfl, trivial⟩ (List.Sublist.refl _) (by first | exact pn_join hN | exact pn_join2 hN) (Nle rfl))
      ·
        refine OpE.alloc rfl hB rfl Tryz.zeroValue32 rfl ?_
        intro g8
        refine VA.hap (fun hap => ?_)
        refine VA.all (rs := [5, 6]) (by kernel_rfl) (by decide) ?_
        refine ⟨⟨_, rfl, .inl rfl, ?_⟩, ⟨_, rfl, .inl rfl, ?_⟩, trivial⟩
        ·
          refine OpE.callHX (rest := _ :: _) txi_stab hGX rfl hB rfl Tryz.call9 rfl rfl (rightPanel_E (k := K1) (pr := pr) (p := g2) (a0 := a0) (cap := cap0) (L := L) (by omega) hsm hp0 hg2) (List.Perm.swap _ _ _) (fun b h => .inr (.inl ⟨rfl, blkStr h⟩)) ?_
          rintro _ _ ⟨rfl, e34, rfl⟩
          refine VA.le _ (Le.recast (t := 34) (y := avPan n) rfl (fun w Z u h => by rw [hN] at h; exact h)) ?_
          refine VA.le _ (Le.erase 1) ?_
          refine VA.all (rs := [6]) (by kernel_rfl) (by decide) ?_
          refine ⟨⟨_, rfl, .inl rfl, ?_⟩, trivial⟩
          refine OpE.alloc rfl hB rfl Tryz.zeroValue32 rfl ?_
          intro g7
          refine VA.hap (fun hap => ?_)
          refine VA.all (rs := [8]) (by kernel_rfl) (by decide) ?_
          refine ⟨⟨_, rfl, .inl rfl, ?_⟩, trivial⟩
          refine OpE.hap (fun hap => ?_)
          refine OpE.store (i := 5) rfl hB rfl Tryz.sizeOf32 rfl rfl rfl rfl rfl rfl (Nle rfl) (by first | exact .inr (.inr ⟨by decide, apart_ne hap (i := 4) (j := 2) rfl rfl (by decide), apart_ne hap (i := 4) (j := 3) rfl rfl (by decide)⟩) | exact .inr (.inr ⟨by decide, apart_ne hap (i := 5) (j := 2) rfl rfl (by decide), apart_ne hap (i := 5) (j := 3) rfl rfl (by decide)⟩)) ?_
          refine VA.all (rs := [9]) (by kernel_rfl) (by decide) ?_
          refine ⟨⟨_, rfl, .inl rfl, ?_⟩, trivial⟩
          refine OpE.hap (fun hap => ?_)
          refine OpE.store (i := 4) rfl hB rfl Tryz.sizeOf32 rfl rfl rfl rfl rfl rfl (Nle rfl) (by first | exact .inr (.inr ⟨by decide, apart_ne hap (i := 4) (j := 2) rfl rfl (by decide), apart_ne hap (i := 4) (j := 3) rfl rfl (by decide)⟩) | exact .inr (.inr ⟨by decide, apart_ne hap (i := 5) (j := 2) rfl rfl (by decide), apart_ne hap (i := 5) (j := 3) rfl rfl (by decide)⟩)) ?_
          refine VA.done (by kernel_rfl) ?_
          exact Exists.intro (⟨g7, g8⟩) (Le.mkP hB ⟨rfl, rfl, rfl, rfl, rfl, rfl, rfl, trivial⟩ (List.Sublist.refl _) (by first | exact pn_join hN | exact pn_join2 hN) (Nle rfl))
        ·
          refine OpE.alloc rfl hB rfl Tryz.zeroValue32 rfl ?_
          intro g7
          refine VA.hap (fun hap => ?_)
          refine VA.all (rs := [5]) (by kernel_rfl) (by decide) ?_
          refine ⟨⟨_, rfl, .inl rfl, ?_⟩, trivial⟩
          refine OpE.callHX (rest := _ :: _) txi_stab hGX rfl hB rfl Tryz.call9 rfl rfl (rightPanel_E (k := K1) (pr := pr) (p := g2) (a0 := a0) (cap := cap0) (L := L) (by omega) hsm hp0 hg2) (List.Perm.swap _ _ _) (fun b h => .inr (.inl ⟨rfl, blkStr h⟩)) ?_
          rintro _ _ ⟨rfl, e34, rfl⟩
          refine VA.le _ (Le.recast (t := 34) (y := avPan n) rfl (fun w Z u h => by rw [hN] at h; exact h)) ?_
          refine VA.le _ (Le.erase 1) ?_
          refine VA.all (rs := [8]) (by kernel_rfl) (by decide) ?_
          refine ⟨⟨_, rfl, .inl rfl, ?_⟩, trivial⟩
          refine OpE.hap (fun hap => ?_)
          refine OpE.store (i := 5) rfl hB rfl Tryz.sizeOf32 rfl rfl rfl rfl rfl rfl (Nle rfl) (by first | exact .inr (.inr ⟨by decide, apart_ne hap (i := 4) (j := 2) rfl rfl (by decide), apart_ne hap (i := 4) (j := 3) rfl rfl (by decide)⟩) | exact .inr (.inr ⟨by decide, apart_ne hap (i := 5) (j := 2) rfl rfl (by decide), apart_ne hap (i := 5) (j := 3) rfl rfl (by decide)⟩)) ?_
          refine VA.all (rs := [9]) (by kernel_rfl) (by decide) ?_
          refine ⟨⟨_, rfl, .inl rfl, ?_⟩, trivial⟩
          refine OpE.hap (fun hap => ?_)
          refine OpE.store (i := 4) rfl hB rfl Tryz.sizeOf32 rfl rfl rfl rfl rfl rfl (Nle rfl) (by first | exact .inr (.inr ⟨by decide, apart_ne hap (i := 4) (j := 2) rfl rfl (by decide), apart_ne hap (i := 4) (j := 3) rfl rfl (by decide)⟩) | exact .inr (.inr ⟨by decide, apart_ne hap (i := 5) (j := 2) rfl rfl (by decide), apart_ne hap (i := 5) (j := 3) rfl rfl (by decide)⟩)) ?_
          refine VA.done (by kernel_rfl) ?_
          exact Exists.intro (⟨g7, g8⟩) (Le.mkP hB ⟨rfl, rfl, rfl, rfl, rfl, rfl, rfl, trivial⟩ (List.Sublist.refl _) (by first | exact pn_join hN | exact pn_join2 hN) (Nle rfl))
    ·
      refine OpE.alloc rfl hB rfl Tryz.zeroValue32 rfl ?_
      intro g7
      refine VA.hap (fun hap => ?_)
      refine VA.all (rs := [2, 7]) (by kernel_rfl) (by decide) ?_
      refine ⟨⟨_, rfl, .inl rfl, ?_⟩, ⟨_, rfl, .inl rfl, ?_⟩, trivial⟩
      ·
        refine OpE.callHX (rest := _ :: _) txi_stab hGX rfl hB rfl Tryz.call9 rfl rfl (rightPanel_E (k := K1) (pr := pr) (p := g1) (a0 := a0) (cap := cap0) (L := L) (by omega) hsm hp0 hg1) (List.Perm.refl _) (fun b h => .inl ⟨rfl, blkStr h⟩) ?_
        rintro _ _ ⟨rfl, e31, rfl⟩
        refine VA.le _ (Le.recast (t := 31) (y := avPan n) rfl (fun w Z u h => by rw [hN] at h; exact h)) ?_
        refine VA.le _ (Le.erase 1) ?_
        refine VA.all (rs := [5, 7]) (by kernel_rfl) (by decide) ?_
        refine ⟨⟨_, rfl, .inl rfl, ?_⟩, ⟨_, rfl, .inl rfl, ?_⟩, trivial⟩
        ·
          refine OpE.callHX (rest := _ :: _) txi_stab hGX rfl hB rfl Tryz.call9 rfl rfl (rightPanel_E (k := K1) (pr := pr) (p := g2) (a0 := a0) (cap := cap0) (L := L) (by omega) hsm hp0 hg2) (List.Perm.swap _ _ _) (fun b h => .inr (.inl ⟨rfl, blkStr h⟩)) ?_
          rintro _ _ ⟨rfl, e34, rfl⟩
          refine VA.le _ (Le.recast (t := 34) (y := avPan n) rfl (fun w Z u h => by rw [hN] at h; exact h)) ?_
          refine VA.le _ (Le.erase 1) ?_
          refine VA.all (rs := [7]) (by kernel_rfl) (by decide) ?_
          refine ⟨⟨_, rfl, .inl rfl, ?_⟩, trivial⟩
          refine OpE.alloc rfl hB rfl Tryz.zeroValue32 rfl ?_
          intro g8
          refine VA.hap (fun hap => ?_)
          refine VA.all (rs := [8]) (by kernel_rfl) (by decide) ?_
          refine ⟨⟨_, rfl, .inl rfl, ?_⟩, trivial⟩
          refine OpE.hap (fun hap => ?_)
          refine OpE.store (i := 4) rfl hB rfl Tryz.sizeOf32 rfl rfl rfl rfl rfl rfl (Nle rfl) (by first | exact .inr (.inr ⟨by decide, apart_ne hap (i := 4) (j := 2) rfl rfl (by decide), apart_ne hap (i := 4) (j := 3) rfl rfl (by decide)⟩) | exact .inr (.inr ⟨by decide, apart_ne hap (i := 5) (j := 2) rfl rfl (by decide), apart_ne hap (i := 5) (j := 3) rfl rfl (by decide)⟩)) ?_
          refine VA.all (rs := [9]) (by kernel_rfl) (by decide) ?_
          refine ⟨⟨_, rfl, .inl rfl, ?_⟩, trivial⟩
          refine OpE.hap (fun hap => ?_)
          refine OpE.store (i := 5) rfl hB rfl Tryz.sizeOf32 rfl rfl rfl rfl rfl rfl (Nle rfl) (by first | exact .inr (.inr ⟨by decide, apart_ne hap (i := 4) (j := 2) rfl rfl (by decide), apart_ne hap (i := 4) (j := 3) rfl rfl (by decide)⟩) | exact .inr (.inr ⟨by decide, apart_ne hap (i := 5) (j := 2) rfl rfl (by decide), apart_ne hap (i := 5) (j := 3) rfl rfl (by decide)⟩)) ?_
          refine VA.done (by kernel_rfl) ?_
          exact Exists.intro (⟨g7, g8⟩) (Le.mkP hB ⟨rfl, rfl, rfl, rfl, rfl, rfl, rfl, trivial⟩ (List.Sublist.refl _) (by first | exact pn_join hN | exact pn_join2 hN) (Nle rfl))
        ·
          refine OpE.alloc rfl hB rfl Tryz.zeroValue32 rfl ?_
          intro g8
          refine VA.hap (fun hap => ?_)
          refine VA.all (rs := [5]) (by kernel_rfl) (by decide) ?_
          refine ⟨⟨_, rfl, .inl rfl, ?_⟩, trivial⟩
          refine OpE.callHX (rest := _ :: _) txi_stab hGX rfl hB rfl Tryz.call9 rfl rfl (rightPanel_E (k := K1) (pr := pr) (p := g2) (a0 := a0) (cap := cap0) (L := L) (by omega) hsm hp0 hg2) (List.Perm.swap _ _ _) (fun b h => .inr (.inl ⟨rfl, blkStr h⟩)) ?_
          rintro _ _ ⟨rfl, e34, rfl⟩
          refine VA.le _ (Le.recast (t := 34) (y := avPan n) rfl (fun w Z u h => by rw [hN] at h; exact h)) ?_
          refine VA.le _ (Le.erase 1) ?_
          refine VA.all (rs := [8]) (by kernel_rfl) (by decide) ?_
          refine ⟨⟨_, rfl, .inl rfl, ?_⟩, trivial⟩
          refine OpE.hap (fun hap => ?_)
          refine OpE.store (i := 4) rfl hB rfl Tryz.sizeOf32 rfl rfl rfl rfl rfl rfl (Nle rfl) (by first | exact .inr (.inr ⟨by decide, apart_ne hap (i := 4) (j := 2) rfl rfl (by decide), apart_ne hap (i := 4) (j := 3) rfl rfl (by decide)⟩) | exact .inr (.inr ⟨by decide, apart_ne hap (i := 5) (j := 2) rfl rfl (by decide), apart_ne hap (i := 5) (j := 3) rfl rfl (by decide)⟩)) ?_
          refine VA.all (rs := [9]) (by kernel_rfl) (by decide) ?_
          refine ⟨⟨_, rfl, .inl rfl, ?_⟩, trivial⟩
          refine OpE.hap (fun hap => ?_)
          refine OpE.store (i := 5) rfl hB rfl Tryz.sizeOf32 rfl rfl rfl rfl rfl rfl (Nle rfl) (by first | exact .inr (.inr ⟨by decide, apart_ne hap (i := 4) (j := 2) rfl rfl (by decide), apart_ne hap (i := 4) (j := 3) rfl rfl (by decide)⟩) | exact .inr (.inr ⟨by decide, apart_ne hap (i := 5) (j := 2) rfl rfl (by decide), apart_ne hap (i := 5) (j := 3) rfl rfl (by decide)⟩)) ?_
          refine VA.done (by kernel_rfl) ?_
          exact Exists.intro (⟨g7, g8⟩) (Le.mkP hB ⟨rfl, rfl, rfl, rfl, rfl, rfl, rfl, trivial⟩ (List.Sublist.refl _) (by first | exact pn_join hN | exact pn_join2 hN) (Nle rfl))
      ·
        refine OpE.alloc rfl hB rfl Tryz.zeroValue32 rfl ?_
        intro g8
        refine VA.hap (fun hap => ?_)
        refine VA.all (rs := [2]) (by kernel_rfl) (by decide) ?_
        refine ⟨⟨_, rfl, .inl rfl, ?_⟩, trivial⟩
        refine OpE.callHX (rest := _ :: _) txi_stab hGX rfl hB rfl Tryz.call9 rfl rfl (rightPanel_E (k := K1) (pr := pr) (p := g1) (a0 := a0) (cap := cap0) (L := L) (by omega) hsm hp0 hg1) (List.Perm.refl _) (fun b h => .inl ⟨rfl, blkStr h⟩) ?_
        rintro _ _ ⟨rfl, e31, rfl⟩
        refine VA.le _ (Le.recast (t := 31) (y := avPan n) rfl (fun w Z u h => by rw [hN] at h; exact h)) ?_
        refine VA.le _ (Le.erase 1) ?_
        refine VA.all (rs := [5]) (by kernel_rfl) (by decide) ?_
        refine ⟨⟨_, rfl, .inl rfl, ?_⟩, trivial⟩
        refine OpE.callHX (rest := _ :: _) txi_stab hGX rfl hB rfl Tryz.call9 rfl rfl (rightPanel_E (k := K1) (pr := pr) (p := g2) (a0 := a0) (cap := cap0) (L := L) (by omega) hsm hp0 hg2) (List.Perm.swap _ _ _) (fun b h => .inr (.inl ⟨rfl, blkStr h⟩)) ?_
        rintro _ _ ⟨rfl, e34, rfl⟩
        refine VA.le _ (Le.recast (t := 34) (y := avPan n) rfl (fun w Z u h => by rw [hN] at h; exact h)) ?_
        refine VA.le _ (Le.erase 1) ?_
        refine VA.all (rs := [8]) (by kernel_rfl) (by decide) ?_
        refine ⟨⟨_, rfl, .inl rfl, ?_⟩, trivial⟩
        refine OpE.hap (fun hap => ?_)
        refine OpE.store (i := 4) rfl hB rfl Tryz.sizeOf32 rfl rfl rfl rfl rfl rfl (Nle rfl) (by first | exact .inr (.inr ⟨by decide, apart_ne hap (i := 4) (j := 2) rfl rfl (by decide), apart_ne hap (i := 4) (j := 3) rfl rfl (by decide)⟩) | exact .inr (.inr ⟨by decide, apart_ne hap (i := 5) (j := 2) rfl rfl (by decide), apart_ne hap (i := 5) (j := 3) rfl rfl (by decide)⟩)) ?_
        refine VA.all (rs := [9]) (by kernel_rfl) (by decide) ?_
        refine ⟨⟨_, rfl, .inl rfl, ?_⟩, trivial⟩
        refine OpE.hap (fun hap => ?_)
        refine OpE.store (i := 5) rfl hB rfl Tryz.sizeOf32 rfl rfl rfl rfl rfl rfl (Nle rfl) (by first | exact .inr (.inr ⟨by decide, apart_ne hap (i := 4) (j := 2) rfl rfl (by decide), apart_ne hap (i := 4) (j := 3) rfl rfl (by decide)⟩) | exact .inr (.inr ⟨by decide, apart_ne hap (i := 5) (j := 2) rfl rfl (by decide), apart_ne hap (i := 5) (j := 3) rfl rfl (by decide)⟩)) ?_
        refine VA.done (by kernel_rfl) ?_
        exact Exists.intro (⟨g7, g8⟩) (Le.mkP hB ⟨rfl, rfl, rfl, rfl, rfl, rfl, rfl, trivial⟩ (List.Sublist.refl _) (by first | exact pn_join hN | exact pn_join2 hN) (Nle rfl))
    ·
      refine OpE.alloc rfl hB rfl Tryz.zeroValue32 rfl ?_
      intro g8
      refine VA.hap (fun hap => ?_)
      refine VA.all (rs := [2, 6]) (by kernel_rfl) (by decide) ?_
      refine ⟨⟨_, rfl, .inl rfl, ?_⟩, ⟨_, rfl, .inl rfl, ?_⟩, trivial⟩
      ·
        refine OpE.callHX (rest := _ :: _) txi_stab hGX rfl hB rfl Tryz.call9 rfl rfl (rightPanel_E (k := K1) (pr := pr) (p := g1) (a0 := a0) (cap := cap0) (L := L) (by omega) hsm hp0 hg1) (List.Perm.refl _) (fun b h => .inl ⟨rfl, blkStr h⟩) ?_
        rintro _ _ ⟨rfl, e31, rfl⟩
        refine VA.le _ (Le.recast (t := 31) (y := avPan n) rfl (fun w Z u h => by rw [hN] at h; exact h)) ?_
        refine VA.le _ (Le.erase 1) ?_
        refine VA.all (rs := [5, 6]) (by kernel_rfl) (by decide) ?_
        refine ⟨⟨_, rfl, .inl rfl, ?_⟩, ⟨_, rfl, .inl rfl, ?_⟩, trivial⟩
        ·
          refine OpE.callHX (rest := _ :: _) txi_stab hGX rfl hB rfl Tryz.call9 rfl rfl (rightPanel_E (k := K1) (pr := pr) (p := g2) (a0 := a0) (cap := cap0) (L := L) (by omega) hsm hp0 hg2) (List.Perm.swap _ _ _) (fun b h => .inr (.inl ⟨rfl, blkStr h⟩)) ?_
          rintro _ _ ⟨rfl, e34, rfl⟩
          refine VA.le _ (Le.recast (t := 34) (y := avPan n) rfl (fun w Z u h => by rw [hN] at h; exact h)) ?_
          refine VA.le _ (Le.erase 1) ?_
          refine VA.all (rs := [6]) (by kernel_rfl) (by decide) ?_
          refine ⟨⟨_, rfl, .inl rfl, ?_⟩, trivial⟩
          refine OpE.alloc rfl hB rfl Tryz.zeroValue32 rfl ?_
          intro g7
          refine VA.hap (fun hap => ?_)
          refine VA.all (rs := [8]) (by kernel_rfl) (by decide) ?_
          refine ⟨⟨_, rfl, .inl rfl, ?_⟩, trivial⟩
          refine OpE.hap (fun hap => ?_)
          refine OpE.store (i := 5) rfl hB rfl Tryz.sizeOf32 rfl rfl rfl rfl rfl rfl (Nle rfl) (by first | exact .inr (.inr ⟨by decide, apart_ne hap (i := 4) (j := 2) rfl rfl (by decide), apart_ne hap (i := 4) (j := 3) rfl rfl (by decide)⟩) | exact .inr (.inr ⟨by decide, apart_ne hap (i := 5) (j := 2) rfl rfl (by decide), apart_ne hap (i := 5) (j := 3) rfl rfl (by decide)⟩)) ?_
          refine VA.all (rs := [9]) (by kernel_rfl) (by decide) ?_
          refine ⟨⟨_, rfl, .inl rfl, ?_⟩, trivial⟩
          refine OpE.hap (fun hap => ?_)
          refine OpE.store (i := 4) rfl hB rfl Tryz.sizeOf32 rfl rfl rfl rfl rfl rfl (Nle rfl) (by first | exact .inr (.inr ⟨by decide, apart_ne hap (i := 4) (j := 2) rfl rfl (by decide), apart_ne hap (i := 4) (j := 3) rfl rfl (by decide)⟩) | exact .inr (.inr ⟨by decide, apart_ne hap (i := 5) (j := 2) rfl rfl (by decide), apart_ne hap (i := 5) (j := 3) rfl rfl (by decide)⟩)) ?_
          refine VA.done (by kernel_rfl) ?_
          exact Exists.intro (⟨g7, g8⟩) (Le.mkP hB ⟨rfl, rfl, rfl, rfl, rfl, rfl, rfl, trivial⟩ (List.Sublist.refl _) (by first | exact pn_join hN | exact pn_join2 hN) (Nle rfl))
        ·
          refine OpE.alloc rfl hB rfl Tryz.zeroValue32 rfl ?_
          intro g7
          refine VA.hap (fun hap => ?_)
          refine VA.all (rs := [5]) (by kernel_rfl) (by decide) ?_
          refine ⟨⟨_, rfl, .inl rfl, ?_⟩, trivial⟩
          refine OpE.callHX (rest := _ :: _) txi_stab hGX rfl hB rfl Tryz.call9 rfl rfl (rightPanel_E (k := K1) (pr := pr) (p := g2) (a0 := a0) (cap := cap0) (L := L) (by omega) hsm hp0 hg2) (List.Perm.swap _ _ _) (fun b h => .inr (.inl ⟨rfl, blkStr h⟩)) ?_
          rintro _ _ ⟨rfl, e34, rfl⟩
          refine VA.le _ (Le.recast (t := 34) (y := avPan n) rfl (fun w Z u h => by rw [hN] at h; exact h)) ?_
          refine VA.le _ (Le.erase 1) ?_
          refine VA.all (rs := [8]) (by kernel_rfl) (by decide) ?_
          refine ⟨⟨_, rfl, .inl rfl, ?_⟩, trivial⟩
          refine OpE.hap (fun hap => ?_)
          refine OpE.store (i := 5) rfl hB rfl Tryz.sizeOf32 rfl rfl rfl rfl rfl rfl (Nle rfl) (by first | exact .inr (.inr ⟨by decide, apart_ne hap (i := 4) (j := 2) rfl rfl (by decide), apart_ne hap (i := 4) (j := 3) rfl rfl (by decide)⟩) | exact .inr (.inr ⟨by decide, apart_ne hap (i := 5) (j := 2) rfl rfl (by decide), apart_ne hap (i := 5) (j := 3) rfl rfl (by decide)⟩)) ?_
          refine VA.all (rs := [9]) (by kernel_rfl) (by decide) ?_
          refine ⟨⟨_, rfl, .inl rfl, ?_⟩, trivial⟩
          refine OpE.hap (fun hap => ?_)
          refine OpE.store (i := 4) rfl hB rfl Tryz.sizeOf32 rfl rfl rfl rfl rfl rfl (Nle rfl) (by first | exact .inr (.inr ⟨by decide, apart_ne hap (i := 4) (j := 2) rfl rfl (by decide), apart_ne hap (i := 4) (j := 3) rfl rfl (by decide)⟩) | exact .inr (.inr ⟨by decide, apart_ne hap (i := 5) (j := 2) rfl rfl (by decide), apart_ne hap (i := 5) (j := 3) rfl rfl (by decide)⟩)) ?_
          refine VA.done (by kernel_rfl) ?_
          exact Exists.intro (⟨g7, g8⟩) (Le.mkP hB ⟨rfl, rfl, rfl, rfl, rfl, rfl, rfl, trivial⟩ (List.Sublist.refl _) (by first | exact pn_join hN | exact pn_join2 hN) (Nle rfl))
      ·
        refine OpE.alloc rfl hB rfl Tryz.zeroValue32 rfl ?_
        intro g7
        refine VA.hap (fun hap => ?_)
        refine VA.all (rs := [2]) (by kernel_rfl) (by decide) ?_
        refine ⟨⟨_, rfl, .inl rfl, ?_⟩, trivial⟩
        refine OpE.callHX (rest := _ :: _) txi_stab hGX rfl hB rfl Tryz.call9 rfl rfl (rightPanel_E (k := K1) (pr := pr) (p := g1) (a0 := a0) (cap := cap0) (L := L) (by omega) hsm hp0 hg1) (List.Perm.refl _) (fun b h => .inl ⟨rfl, blkStr h⟩) ?_
        rintro _ _ ⟨rfl, e31, rfl⟩
        refine VA.le _ (Le.recast (t := 31) (y := avPan n) rfl (fun w Z u h => by rw [hN] at h; exact h)) ?_
        refine VA.le _ (Le.erase 1) ?_
        refine VA.all (rs := [5]) (by kernel_rfl) (by decide) ?_
        refine ⟨⟨_, rfl, .inl rfl, ?_⟩, trivial⟩
        refine OpE.callHX (rest := _ :: _) txi_stab hGX rfl hB rfl Tryz.call9 rfl rfl (rightPanel_E (k := K1) (pr := pr) (p := g2) (a0 := a0) (cap := cap0) (L := L) (by omega) hsm hp0 hg2) (List.Perm.swap _ _ _) (fun b h => .inr (.inl ⟨rfl, blkStr h⟩)) ?_
        rintro _ _ ⟨rfl, e34, rfl⟩
        refine VA.le _ (Le.recast (t := 34) (y := avPan n) rfl (fun w Z u h => by rw [hN] at h; exact h)) ?_
        refine VA.le _ (Le.erase 1) ?_
        refine VA.all (rs := [8]) (by kernel_rfl) (by decide) ?_
        refine ⟨⟨_, rfl, .inl rfl, ?_⟩, trivial⟩
        refine OpE.hap (fun hap => ?_)
        refine OpE.store (i := 5) rfl hB rfl Tryz.sizeOf32 rfl rfl rfl rfl rfl rfl (Nle rfl) (by first | exact .inr (.inr ⟨by decide, apart_ne hap (i := 4) (j := 2) rfl rfl (by decide), apart_ne hap (i := 4) (j := 3) rfl rfl (by decide)⟩) | exact .inr (.inr ⟨by decide, apart_ne hap (i := 5) (j := 2) rfl rfl (by decide), apart_ne hap (i := 5) (j := 3) rfl rfl (by decide)⟩)) ?_
        refine VA.all (rs := [9]) (by kernel_rfl) (by decide) ?_
        refine ⟨⟨_, rfl, .inl rfl, ?_⟩, trivial⟩
        refine OpE.hap (fun hap => ?_)
        refine OpE.store (i := 4) rfl hB rfl Tryz.sizeOf32 rfl rfl rfl rfl rfl rfl (Nle rfl) (by first | exact .inr (.inr ⟨by decide, apart_ne hap (i := 4) (j := 2) rfl rfl (by decide), apart_ne hap (i := 4) (j := 3) rfl rfl (by decide)⟩) | exact .inr (.inr ⟨by decide, apart_ne hap (i := 5) (j := 2) rfl rfl (by decide), apart_ne hap (i := 5) (j := 3) rfl rfl (by decide)⟩)) ?_
        refine VA.done (by kernel_rfl) ?_
        exact Exists.intro (⟨g7, g8⟩) (Le.mkP hB ⟨rfl, rfl, rfl, rfl, rfl, rfl, rfl, trivial⟩ (List.Sublist.refl _) (by first | exact pn_join hN | exact pn_join2 hN) (Nle rfl))
  ·
    rintro ⟨g7, g8⟩
    show VC _ _ _ _ ⟨[(2, .v (.bool false)), (3, sp g1), (4, sp g2), (5, .v (.pointer (some ⟨g5, 0, none⟩))), (6, .v (.pointer (some ⟨g6, 0, none⟩))), (7, .v (.pointer (some ⟨g7, 0, none⟩))), (8, .v (.pointer (some ⟨g8, 0, none⟩)))], [bxStr g1 a0 cap0 L K2, bxStr g2 a0 cap0 L K2, boxProd g5 pr 28, boxProd g6 pr 28, boxPan g7 n 32, boxPan g8 n 32], 0⟩
    refine VC.sr ?_
    refine VO.vv (OpV.loadK_own (i := 2) rfl hB Tryz.isAgg28 Tryz.sizeOf28 rfl rfl rfl (fun h => h)) ?_
    refine VO.vv (OpV.loadK_own (i := 4) rfl hB Tryz.isAgg32 Tryz.sizeOf32 rfl rfl rfl (fun h => h)) ?_
    refine VO.op rfl (OpE.callH (rest := _ :: _) rfl hB rfl Tryz.call10 rfl rfl (panel_TurnedO hsm (by omega)) (List.Perm.refl _) (fun _ _ => trivial) ?_)
    rintro _ _ ⟨ta, tb, u38, n38, l38, e38, rfl, hn38, rfl⟩
    refine VO.le _ (Le.erase 1) ?_
    refine VO.rowIs (i := 0) rfl (fun b38 c38 hu38 => ?_)
    subst hu38
    refine VO.mw ?_
    refine VO.vv (OpV.extract rfl rfl rfl) ?_
    refine VO.vv (OpV.extract rfl rfl rfl) ?_
    refine VO.op rfl (OpE.alloc rfl hB rfl Tryz.zeroValue32 rfl ?_)
    intro g9
    refine VO.op rfl (OpE.store (i := 7) rfl hB rfl Tryz.sizeOf32 rfl rfl rfl rfl rfl rfl (Nle rfl) trivial ?_)
    refine VO.mb ?_
    refine VO.nil ?_
    refine VC.sr ?_
    refine VO.vv (OpV.fieldAddrO 2 rfl Tryz.underlying32 rfl rfl Tryz.sizeOf30 rfl) ?_
    refine VO.vv (OpV.load_own (i := 7) rfl hB Tryz.isAgg30 rfl rfl rfl (fun h => h)) ?_
    refine VO.op rfl (OpE.callH (rest := _ :: _) rfl hB rfl Tryz.call11 rfl rfl (spoil_Sl (by rw [rowL_len, hn38]; rfl)) (List.Perm.refl _) (fun _ _ => trivial) ?_)
    rintro _ _ ⟨x1, rfl⟩
    refine VO.le _ (Le.drop 1) ?_
    refine VO.nil ?_
    refine VC.seq ?_
    refine VC.le _ (Le.pickH [0, 1, 2, 3, 4, 5] rfl rfl) ?_
    refine VC.region ?_
    refine VO.vv (OpV.loadK_own (i := 2) rfl hB Tryz.isAgg28 Tryz.sizeOf28 rfl rfl rfl (fun h => h)) ?_
    refine VO.vv (OpV.loadK_own (i := 4) rfl hB Tryz.isAgg32 Tryz.sizeOf32 rfl rfl rfl (fun h => h)) ?_
    refine VO.op rfl (OpE.callH (rest := _ :: _) rfl hB rfl Tryz.call12 rfl rfl (panel_SpotsO hsm (by omega)) (List.Perm.refl _) (fun _ _ => trivial) ?_)
    rintro _ _ ⟨u47, n47, l47, rfl, hn47, rfl⟩
    refine VO.mw ?_
    refine VO.vv (OpV.extract rfl rfl rfl) ?_
    refine VO.vv (OpV.extract rfl rfl rfl) ?_
    refine VO.mb ?_
    refine VO.mb ?_
    refine VO.nil ?_
    refine VC.sr ?_
    refine VO.mw ?_
    refine VO.op rfl (OpE.callH (rest := _ :: _) rfl hB rfl Tryz.call13 rfl rfl (spoil_Sp (by rw [rowL_len, hn47]; rfl)) (List.Perm.refl _) (fun _ _ => trivial) ?_)
    rintro _ _ ⟨x2, rfl⟩
    refine VO.le _ (Le.drop 1) ?_
    refine VO.nil ?_
    refine VC.sr ?_
    refine VO.vv (OpV.loadK_own (i := 2) rfl hB Tryz.isAgg28 Tryz.sizeOf28 rfl rfl rfl (fun h => h)) ?_
    refine VO.vv (OpV.loadK_own (i := 4) rfl hB Tryz.isAgg32 Tryz.sizeOf32 rfl rfl rfl (fun h => h)) ?_
    refine VO.op rfl (OpE.callH (rest := _ :: _) rfl hB rfl Tryz.call14 rfl rfl (panel_OverlapsO hsm (by omega)) (List.Perm.refl _) (fun _ _ => trivial) ?_)
    rintro _ _ ⟨u55, n55, l55, rfl, hn55, rfl⟩
    refine VO.mw ?_
    refine VO.vv (OpV.extract rfl rfl rfl) ?_
    refine VO.vv (OpV.extract rfl rfl rfl) ?_
    refine VO.mb ?_
    refine VO.mb ?_
    refine VO.nil ?_
    refine VC.sr ?_
    refine VO.mw ?_
    refine VO.op rfl (OpE.callH (rest := _ :: _) rfl hB rfl Tryz.call15 rfl rfl (spoil_Ip (by rw [rowL_len, hn55]; rfl)) (List.Perm.refl _) (fun _ _ => trivial) ?_)
    rintro _ _ ⟨x3, rfl⟩
    refine VO.le _ (Le.drop 1) ?_
    refine VO.nil ?_
    refine VC.sr ?_
    refine VO.mw ?_
    refine VO.op rfl (OpE.callHX (rest := _ :: _) txi_stab hGX rfl hB rfl Tryz.call16 rfl rfl (bodies_E (k := K2) (p := g1) (a0 := a0) (cap := cap0) (L := L) (by omega) hg1) (List.Perm.refl _) (fun _ _ => trivial) ?_)
    rintro _ _ ⟨rfl, rfl⟩
    refine VO.mw ?_
    refine VO.op rfl (OpE.callHX (rest := _ :: _) txi_stab hGX rfl hB rfl Tryz.call16 rfl rfl (bodies_E (k := K2) (p := g2) (a0 := a0) (cap := cap0) (L := L) (by omega) hg2) (List.Perm.swap _ _ _) (fun _ _ => trivial) ?_)
    rintro _ _ ⟨rfl, rfl⟩
    refine VO.mb ?_
    refine VO.mb ?_
    refine VO.nil ?_
    refine VC.seq ?_
    refine VC.le _ (Le.recast (t := 15) (y := avL bd) rfl (fun w Z u h => by rw [← hbe]; exact h)) ?_
    refine VC.le _ (Le.recast (t := 16) (y := avL bd) rfl (fun w Z u h => by rw [← hbe]; exact h)) ?_
    refine VC.region ?_
    refine VO.vv (OpV.loadK_own (i := 2) rfl hB Tryz.isAgg28 Tryz.sizeOf28 rfl rfl rfl (fun h => h)) ?_
    refine VO.mw ?_
    refine VO.op rfl (OpE.callH (rest := _ :: _) rfl hB rfl Tryz.call17 rfl rfl (panel_CrowdedO hsm hbs) (List.Perm.refl _) (fun _ _ => trivial) ?_)
    rintro _ _ ⟨u67, n67, l67, rfl, hn67, rfl⟩
    refine VO.mw ?_
    refine VO.vv (OpV.extract rfl rfl rfl) ?_
    refine VO.vv (OpV.extract rfl rfl rfl) ?_
    refine VO.mb ?_
    refine VO.mb ?_
    refine VO.nil ?_
    refine VC.sr ?_
    refine VO.mw ?_
    refine VO.op rfl (OpE.callH (rest := _ :: _) rfl hB rfl Tryz.call18 rfl rfl (spoil_P (by rw [rowL_len, hn67]; rfl)) (List.Perm.refl _) (fun _ _ => trivial) ?_)
    rintro _ _ ⟨x4, rfl⟩
    refine VO.le _ (Le.drop 1) ?_
    refine VO.nil ?_
    refine VC.sr ?_
    refine VO.vv (OpV.loadK_own (i := 2) rfl hB Tryz.isAgg28 Tryz.sizeOf28 rfl rfl rfl (fun h => h)) ?_
    refine VO.vv (OpV.loadK_own (i := 3) rfl hB Tryz.isAgg28 Tryz.sizeOf28 rfl rfl rfl (fun h => h)) ?_
    refine VO.op rfl (OpE.call rfl hB rfl Tryz.call19 rfl (SpecN.spec (rf_SameProduct (by omega) (by omega))) ?_)
    rintro _ rfl
    refine VO.le _ (Le.boolT (t := 74) rfl (sameP_self _)) ?_
    refine VO.mw ?_
    refine VO.opY rfl rfl rfl rfl rfl ?_
    refine OpE.val (W := NoB) (OpV.loadK_own (i := 4) rfl hB Tryz.isAgg32 Tryz.sizeOf32 rfl rfl rfl (fun h => h)) rfl ?_
    refine VO.opY rfl rfl rfl rfl rfl ?_
    refine OpE.val (W := NoB) (OpV.loadK_own (i := 5) rfl hB Tryz.isAgg32 Tryz.sizeOf32 rfl rfl rfl (fun h => h)) rfl ?_
    refine VO.opY rfl rfl rfl rfl rfl ?_
    refine OpE.call rfl hB rfl Tryz.call20 rfl (SpecN.spec (rf_SamePanel (by omega) (by omega))) ?_
    rintro _ rfl
    refine VO.le _ (Le.boolT (t := 78) rfl (samePan_self _)) ?_
    refine VO.vv (OpV.pickT rfl rfl rfl rfl rfl) ?_
    refine VO.mw ?_
    refine VO.opY rfl rfl rfl rfl rfl ?_
    refine OpE.val (W := NoB) (OpV.move (.inl rfl) rfl) rfl ?_
    refine VO.opY rfl rfl rfl rfl rfl ?_
    refine OpE.val (W := NoB) (OpV.move (.inl rfl) rfl) rfl ?_
    refine VO.opY rfl rfl rfl rfl rfl ?_
    refine OpE.call rfl hB rfl Tryz.call21 rfl (SpecN.spec (slices_Equal_bd (by omega) (by omega))) ?_
    rintro _ rfl
    refine VO.le _ (Le.boolT (t := 83) rfl (eqLs_self eqBd_self _)) ?_
    refine VO.vv (OpV.pickT rfl rfl rfl rfl rfl) ?_
    refine VO.mw ?_
    refine VO.opY rfl rfl rfl rfl rfl ?_
    refine OpE.call rfl hB rfl Tryz.call22 rfl (SpecN.spec (rk_ready)) ?_
    rintro _ rfl
    refine VO.vv (OpV.pickT rfl rfl rfl rfl rfl) ?_
    refine VO.mb ?_
    refine VO.nil ?_
    refine VC.ret ?_
    exact And.intro rfl rfl
end
end Go.Proofs.YtcploodfholkkaaGreatDoor
