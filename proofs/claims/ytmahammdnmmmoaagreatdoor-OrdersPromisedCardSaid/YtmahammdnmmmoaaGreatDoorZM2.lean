/- Part 2 of a proof: the walks and laws that it needs. -/
import Derived.Test.YtmahammdnmmmoaaGreatDoorZM1
namespace Go.Proofs.YtmahammdnmmmoaaGreatDoor
open Go.RowKit
set_option linter.unusedVariables false
set_option linter.unusedSimpArgs false
theorem idO_ordL (n : Nat) : OrdL ltI (idO n) := by
 unfold OrdL idO
 rw [List.pairwise_map]
 refine List.Pairwise.imp (fun {a b} h => ?_) List.pairwise_lt_range
 exact decide_eq_false (by omega)
theorem sch_sorted {n : Nat} {l s : List Int} (hp : s.Perm l) (ho : OrdL ltI s) (h0 : schF n l = 0) : s = idO n := by
 obtain ⟨h1, h2⟩ := schF_0 h0
 have hpi := hp.trans (h2.perm h1)
 refine ord_unique hpi (hp.nodup_iff.2 h2.nd) (fun a _ b _ hne h => ?_) ho (idO_ordL n)
 have := of_decide_eq_false h
 exact decide_eq_true (by omega)
theorem sch_no {n q : Nat} {l s : List Int} (hp : s.Perm l) (ho : OrdL ltI s) (hq : q < s.length) (h : s.getD q 0 ≠ (q : Int)) : schF n l = 3 := by
 by_cases h0 : schF n l = 0
 ·have e := sch_sorted hp ho h0
  subst e
  rw [idO_len] at hq
  exact absurd (idO_get hq) h
 ·unfold schF at h0 ⊢
  split
  ·rename_i h1; rw [if_pos h1] at h0; exact absurd rfl h0
  ·rfl
theorem sch_yes {n : Nat} {l s : List Int} (hp : s.Perm l) (hn : ∀ j, j < s.length → s.getD j 0 = (j : Int)) (hl : l.length = n) : schF n l = 0 := by
 have e : s = idO n := by
  have hs : s.length = n := by rw [hp.length_eq, hl]
  apply List.ext_getElem (by rw [hs, idO_len])
  intro i h1 h2
  have := hn i h1
  rw [List.getD_eq_getElem?_getD, List.getElem?_eq_getElem h1] at this
  simp only [Option.getD_some] at this
  rw [this]
  simp [idO]
 subst e
 refine schF_ok hl ⟨hp.nodup_iff.1 (idO_ord n).nd, fun x hx => (idO_ord n).lt x (hp.symm.subset hx)⟩
set_option maxRecDepth 100000 in
set_option maxHeartbeats 4000000 in
theorem rf_ScheduleFault {o : List OrdrS} {l : List Int} (ho : o.length ≤ 1000000) (hl : l.length ≤ 12) :
  SpecN Tryz.prog 35 [avL o, avInts l] (fun y => y = avI (schF o.length l)) := by
 refine SpecN.of_VCN Tryz.func35 rfl Tryz.ntmps35 (Nle rfl) fun w A hB => ?_
 have hnew : True := trivial
 refine VC.sr ?_
 refine VO.ma rfl rfl rfl rfl ?_
 refine VO.nil ?_
 refine VC.sr ?_
 refine VO.mv rfl rfl rfl rfl ?_
 refine VO.op rfl (OpE.callR rfl hB rfl Tryz.call120 (slices_Clone_R (by omega)) (ArgsP.cons (ArgP.ev rfl) (ArgsP.nil)) ?_)
 intro u
 refine VO.ma rfl rfl rfl rfl ?_
 refine VO.nil ?_
 refine VC.sr ?_
 refine VO.mv rfl rfl rfl rfl ?_
 refine VO.op rfl (OpE.callH0 rfl hB rfl Tryz.call80 rfl rfl (sort_int (l0 := l) hl) (List.Perm.refl _) (fun _ _ => trivial) ?_)
 rintro _ _ ⟨s, ⟨hsp, hso⟩, rfl, rfl⟩
 refine VO.nil ?_
 refine VC.seq ?_
 refine VC.seq ?_
 have hsl := hsp.length_eq
 refine VC.le _ (Le.rowI (t := 5) (i := 0) hB hnew rfl rfl hsl.symm) ?_
 refine VC.region ?_
 refine VO.mv rfl rfl rfl rfl ?_
 refine VO.val rfl rfl (OpV.len_im rfl Tryz.underlying22 rfl) ?_
 refine VO.mv rfl rfl rfl rfl ?_
 refine VO.nil ?_
 refine VC.block ?_
 refine VC.loopK [(0, _), (5, _), (12, _), (13, _)] ⟨rfl, rfl, rfl, rfl, trivial⟩ ({q : Nat // q ≤ s.length ∧ ∀ j, j < q → s.getD j 0 = (j : Int)}) (fun (iZ : {q : Nat // q ≤ s.length ∧ ∀ j, j < q → s.getD j 0 = (j : Int)}) => match iZ with | ⟨q, hq, hn⟩ => [(14, avI (q : Int))]) (fun (iZ : {q : Nat // q ≤ s.length ∧ ∀ j, j < q → s.getD j 0 = (j : Int)}) => match iZ with | ⟨q, hq, hn⟩ => []) (fun (iZ : {q : Nat // q ≤ s.length ∧ ∀ j, j < q → s.getD j 0 = (j : Int)}) => match iZ with | ⟨q, hq, hn⟩ => 0) (fun (iZ : {q : Nat // q ≤ s.length ∧ ∀ j, j < q → s.getD j 0 = (j : Int)}) => match iZ with | ⟨q, hq, hn⟩ => s.length - q) ⟨0, Nat.zero_le _, fun j hj => absurd hj (Nat.not_lt_zero j)⟩ (Le.mk hB [] ⟨rfl, rfl, rfl, rfl, rfl, trivial⟩ rfl rfl (Nat.le_refl _)) ?_
 rintro ⟨q, hq, hn⟩
 show VC _ _ _ _ ⟨[(14, avI (q : Int))] ++ [(0, _), (5, _), (12, _), (13, _)], [], 0⟩
 refine VC.sr ?_
 refine VO.val rfl rfl (OpV.lss rfl rfl rfl) ?_
 refine VO.nil ?_
 refine VC.seq ?_
 refine VC.cond rfl (fun aH1b => ?_) (fun aH1b => ?_)
 ·have aH1 := aH1b
  try simp only [qqT, qqF, qqN, qqM, qqL, qqE] at aH1
  refine VC.skip ?_
  refine VC.seq ?_
  refine VC.block ?_
  refine VC.sr ?_
  refine VO.mv rfl rfl rfl rfl ?_
  refine VO.val rfl rfl (OpV.indexAddr_1 rfl Tryz.underlying22 Tryz.sizeOf3 rfl rfl rfl (by omega)) ?_
  refine VO.val rfl rfl (OpV.load_at rfl hB OutW.no Tryz.isAgg3 rfl rfl) ?_
  refine VO.ma rfl rfl rfl rfl ?_
  refine VO.ma rfl rfl rfl rfl ?_
  refine VO.nil ?_
  refine VC.sr ?_
  refine VO.mv rfl rfl rfl rfl ?_
  refine VO.mv rfl rfl rfl rfl ?_
  refine VO.val rfl rfl (OpV.neq rfl rfl rfl) ?_
  refine VO.nil ?_
  refine VC.cond rfl (fun aH2b => ?_) (fun aH2b => ?_)
  ·have aH2 := aH2b
   try simp only [qqT, qqF, qqN, qqM, qqL, qqE] at aH2
   refine VC.sr ?_
   refine VO.ma rfl rfl rfl rfl ?_
   refine VO.nil ?_
   refine VC.ret ?_
   exact Exists.intro _ (And.intro (RetN.one Tryz.results35 (ResN.v rfl)) (by rw [sch_no hsp hso (q := q) (by omega) (by omega)]))
  ·have aH2 := aH2b
   try simp only [qqT, qqF, qqN, qqM, qqL, qqE] at aH2
   refine VC.skip ?_
   refine VC.region ?_
   refine VO.val rfl rfl (OpV.add rfl rfl rfl (by unfold fits; omega)) ?_
   refine VO.mv rfl rfl rfl rfl ?_
   refine VO.nil ?_
   exact Exists.intro (⟨q + 1, by omega, lt_succ_cases hn ((by omega))⟩) (And.intro (Le.mk hB [] ⟨rfl, rfl, rfl, rfl, rfl, trivial⟩ rfl rfl (Nat.le_refl _)) (by first | omega | (show _ < _; omega) | (simp only []; omega)))
 ·have aH1 := aH1b
  try simp only [qqT, qqF, qqN, qqM, qqL, qqE] at aH1
  refine VC.exit ?_
  refine VC.seq ?_
  refine VC.sr ?_
  refine VO.mv rfl rfl rfl rfl ?_
  refine VO.val rfl rfl (OpV.len_im rfl Tryz.underlying22 rfl) ?_
  refine VO.mv rfl rfl rfl rfl ?_
  refine VO.val rfl rfl (OpV.len_im rfl Tryz.underlying28 rfl) ?_
  refine VO.val rfl rfl (OpV.neq rfl rfl rfl) ?_
  refine VO.nil ?_
  refine VC.cond rfl (fun aH3b => ?_) (fun aH3b => ?_)
  ·have aH3 := aH3b
   try simp only [qqT, qqF, qqN, qqM, qqL, qqE] at aH3
   refine VC.sr ?_
   refine VO.ma rfl rfl rfl rfl ?_
   refine VO.nil ?_
   refine VC.ret ?_
   exact Exists.intro _ (And.intro (RetN.one Tryz.results35 (ResN.v rfl)) (by rw [schF_len (by omega)]))
  ·have aH3 := aH3b
   try simp only [qqT, qqF, qqN, qqM, qqL, qqE] at aH3
   refine VC.skip ?_
   refine VC.sr ?_
   refine VO.ma rfl rfl rfl rfl ?_
   refine VO.nil ?_
   refine VC.ret ?_
   exact Exists.intro _ (And.intro (RetN.one Tryz.results35 (ResN.v rfl)) (by rw [sch_yes hsp (fun j hj => hn j (by omega)) (by omega)]))
set_option maxRecDepth 100000 in
theorem rf_ChangeoverOf1 {x o : NeedS}  :
  SpecN Tryz.prog 311 [avT o, .at_ 2 (Sxc.cell x)] (fun y => y = avB (sEq o.key x.key)) := by
 refine SpecN.of_VCN Tryz.func311 rfl Tryz.ntmps311 (Nle rfl) fun w A hB => ?_
 have hnew : True := trivial
 refine VC.sr ?_
 refine VO.op rfl (OpE.box rfl hB rfl rfl rfl ?_)
 intro g2
 refine VO.ma rfl rfl rfl rfl ?_
 refine VO.nil ?_
 refine VC.sr ?_
 refine VO.val rfl rfl (OpV.fieldAddrO 0 rfl Tryz.underlying125 rfl rfl Tryz.sizeOf9 rfl) ?_
 refine VO.val rfl rfl (OpV.load_own (i := 0) rfl hB Tryz.isAgg9 rfl rfl rfl (fun h => h)) ?_
 refine VO.val rfl rfl (OpV.fieldAddr_atO 0 rfl Tryz.underlying125 rfl rfl Tryz.sizeOf9 rfl rfl) ?_
 refine VO.val rfl rfl (OpV.load_at rfl hB OutW.no Tryz.isAgg9 rfl rfl) ?_
 refine VO.val rfl rfl (OpV.seql rfl rfl rfl) ?_
 refine VO.ma rfl rfl rfl rfl ?_
 refine VO.nil ?_
 refine VC.ret ?_
 exact Exists.intro _ (And.intro (RetN.one Tryz.results311 (ResN.v rfl)) (rfl))
set_option maxRecDepth 100000 in
set_option maxHeartbeats 4000000 in
theorem rf_ChangeoverOf {p : List PaceS} {a b : ByteArray} {each : Int} (hp : SmPc p) (he : 0 ≤ each ∧ each ≤ 10000000) :
  SpecN Tryz.prog 254 [avL p, avS a, avS b, avI each] (fun y => y = avI (chgI (paceO p a) (paceO p b) each)) := by
 refine SpecN.of_VCN Tryz.func254 rfl Tryz.ntmps254 (Nle rfl) fun w A hB => ?_
 have hnew : True := trivial
 refine VC.seq ?_
 have hl := hp.len
 have hb := (paceO_sm hp b).1
 have ha := (paceO_sm hp a).1
 refine VC.region ?_
 refine VO.ma rfl rfl rfl rfl ?_
 refine VO.nil ?_
 refine VC.sr ?_
 refine VO.mv rfl rfl rfl rfl ?_
 refine VO.mv rfl rfl rfl rfl ?_
 refine VO.op rfl (OpE.call rfl hB rfl Tryz.call122 rfl (rf_PaceOf (k := a) (by omega)) ?_)
 rintro _ rfl
 refine VO.mv rfl rfl rfl rfl ?_
 refine VO.val rfl rfl (OpV.extract rfl rfl rfl) ?_
 refine VO.val rfl rfl (OpV.extract rfl rfl rfl) ?_
 refine VO.op rfl (OpE.alloc rfl hB rfl Tryz.zeroValue142 rfl ?_)
 intro g9
 refine VO.op rfl (OpE.store (i := 0) rfl hB rfl Tryz.sizeOf142 rfl rfl rfl rfl rfl rfl (Nle rfl) trivial ?_)
 refine VO.ma rfl rfl rfl rfl ?_
 refine VO.nil ?_
 refine VC.sr ?_
 refine VO.mv rfl rfl rfl rfl ?_
 refine VO.mv rfl rfl rfl rfl ?_
 refine VO.op rfl (OpE.call rfl hB rfl Tryz.call122 rfl (rf_PaceOf (k := b) (by omega)) ?_)
 rintro _ rfl
 refine VO.mv rfl rfl rfl rfl ?_
 refine VO.val rfl rfl (OpV.extract rfl rfl rfl) ?_
 refine VO.val rfl rfl (OpV.extract rfl rfl rfl) ?_
 refine VO.op rfl (OpE.alloc rfl hB rfl Tryz.zeroValue142 rfl ?_)
 intro g11
 refine VO.op rfl (OpE.store (i := 1) rfl hB rfl Tryz.sizeOf142 rfl rfl rfl rfl rfl rfl (Nle rfl) trivial ?_)
 refine VO.ma rfl rfl rfl rfl ?_
 refine VO.nil ?_
 refine VC.sr ?_
 refine VO.ma rfl rfl rfl rfl ?_
 refine VO.nil ?_
 refine VC.seq ?_
 refine VC.sr ?_
 refine VO.val rfl rfl (OpV.fieldAddrO 2 rfl Tryz.underlying142 rfl rfl Tryz.sizeOf109 rfl) ?_
 refine VO.val rfl rfl (OpV.load_own (i := 1) rfl hB Tryz.isAgg109 rfl rfl rfl (fun h => h)) ?_
 refine VO.val rfl rfl (OpV.len_im rfl Tryz.underlying109 rfl) ?_
 refine VO.mv rfl rfl rfl rfl ?_
 refine VO.nil ?_
 refine VC.block ?_
 refine VC.loopK [(3, _), (9, _), (29, _), (30, _)] ⟨rfl, rfl, rfl, rfl, trivial⟩ ({q : Nat // q ≤ (paceO p b).needs.length}) (fun (iZ : {q : Nat // q ≤ (paceO p b).needs.length}) => match iZ with | ⟨q, hq⟩ => [(13, avI (each * (chgN (paceO p a).needs (paceO p b).needs q : Int))), (31, avI (q : Int))]) (fun (iZ : {q : Nat // q ≤ (paceO p b).needs.length}) => match iZ with | ⟨q, hq⟩ => [boxPc g9 (paceO p a) 142, boxPc g11 (paceO p b) 142]) (fun (iZ : {q : Nat // q ≤ (paceO p b).needs.length}) => match iZ with | ⟨q, hq⟩ => 0) (fun (iZ : {q : Nat // q ≤ (paceO p b).needs.length}) => match iZ with | ⟨q, hq⟩ => (paceO p b).needs.length - q) ⟨0, Nat.zero_le _⟩ (Le.mk hB [0, 1] ⟨(by rw [show chgN (paceO p a).needs (paceO p b).needs 0 = 0 by simp [chgN]]; simp; rfl), rfl, rfl, rfl, rfl, rfl, trivial⟩ rfl rfl (Nat.le_refl _)) ?_
 rintro ⟨q, hq⟩
 show VC _ _ _ _ ⟨[(13, avI (each * (chgN (paceO p a).needs (paceO p b).needs q : Int))), (31, avI (q : Int))] ++ [(3, _), (9, _), (29, _), (30, _)], [boxPc g9 (paceO p a) 142, boxPc g11 (paceO p b) 142], 0⟩
 have hcn := chgN_le (paceO p a).needs (paceO p b).needs q
 have hcm := mul_bd he.1 he.2 (by omega : (0 : Int) ≤ (chgN (paceO p a).needs (paceO p b).needs q : Int)) (by omega : _ ≤ (1000000 : Int))
 refine VC.sr ?_
 refine VO.val rfl rfl (OpV.lss rfl rfl rfl) ?_
 refine VO.nil ?_
 refine VC.seq ?_
 refine VC.cond rfl (fun aH1b => ?_) (fun aH1b => ?_)
 ·have aH1 := aH1b
  try simp only [qqT, qqF, qqN, qqM, qqL, qqE] at aH1
  refine VC.skip ?_
  refine VC.seq ?_
  refine VC.block ?_
  refine VC.sr ?_
  refine VO.val rfl rfl (OpV.indexAddr_E rfl Tryz.underlying109 Tryz.sizeOf125 rfl rfl rfl (by omega)) ?_
  refine VO.val rfl rfl (OpV.loadK_at rfl hB OutW.no Tryz.isAgg125 Tryz.sizeOf125 rfl rfl) ?_
  refine VO.op rfl (OpE.alloc rfl hB rfl Tryz.zeroValue125 rfl ?_)
  intro g15
  refine VO.op rfl (OpE.store (i := 2) rfl hB rfl Tryz.sizeOf125 rfl rfl rfl rfl rfl rfl (Nle rfl) trivial ?_)
  refine VO.nil ?_
  refine VC.sr ?_
  refine VO.val rfl rfl (OpV.fieldAddrO 2 rfl Tryz.underlying142 rfl rfl Tryz.sizeOf109 rfl) ?_
  refine VO.val rfl rfl (OpV.load_own (i := 0) rfl hB Tryz.isAgg109 rfl rfl rfl (fun h => h)) ?_
  refine VO.val rfl rfl (OpV.makeFunc1 rfl rfl) ?_
  refine VO.op rfl (OpE.callL rfl hB rfl Tryz.call200 (slices_ContainsFunc_need (p := fun o => sEq o.key ((paceO p b).needs.getD q default).key) (by omega) Tryz.call311 (fun x => rf_ChangeoverOf1.spec)) (ArgsP.cons (ArgP.ev rfl) (ArgsP.cons (ArgP.fn1 (i := 2) (m := 2) (f := Sxc.cell ((paceO p b).needs.getD q default)) rfl rfl (Nle rfl) (lt2 rfl rfl)) (ArgsP.nil))) ?_)
  rintro _ rfl
  refine VO.val rfl rfl (OpV.not rfl rfl) ?_
  refine VO.nil ?_
  refine VC.cond rfl (fun hxb => ?_) (fun hxb => ?_)
  ·have hx := hxb
   try simp only [qqT, qqF, qqN, qqM, qqL, qqE] at hx
   refine VC.region ?_
   refine VO.mv rfl rfl rfl rfl ?_
   refine VO.mv rfl rfl rfl rfl ?_
   refine VO.val rfl rfl (OpV.add rfl rfl rfl (by unfold fits; omega)) ?_
   refine VO.ma rfl rfl rfl rfl ?_
   refine VO.nil ?_
   refine VC.region ?_
   refine VO.val rfl rfl (OpV.add rfl rfl rfl (by unfold fits; omega)) ?_
   refine VO.mv rfl rfl rfl rfl ?_
   refine VO.nil ?_
   exact Exists.intro (⟨q + 1, by omega⟩) (And.intro (Le.mk hB [0, 1] ⟨(by first | (rw [chgN_t (by omega) hx, Int.natCast_add, Int.mul_add, Int.natCast_one, Int.mul_one]; rfl) | (rw [chgN_f (by omega) hx]; rfl)), rfl, rfl, rfl, rfl, rfl, trivial⟩ rfl rfl (Nat.le_refl _)) (by first | omega | (show _ < _; omega) | (simp only []; omega)))
  ·have hx := hxb
   try simp only [qqT, qqF, qqN, qqM, qqL, qqE] at hx
   refine VC.skip ?_
   refine VC.region ?_
   refine VO.val rfl rfl (OpV.add rfl rfl rfl (by unfold fits; omega)) ?_
   refine VO.mv rfl rfl rfl rfl ?_
   refine VO.nil ?_
   exact Exists.intro (⟨q + 1, by omega⟩) (And.intro (Le.mk hB [0, 1] ⟨(by first | (rw [chgN_t (by omega) hx, Int.natCast_add, Int.mul_add, Int.natCast_one, Int.mul_one]; rfl) | (rw [chgN_f (by omega) hx]; rfl)), rfl, rfl, rfl, rfl, rfl, trivial⟩ rfl rfl (Nat.le_refl _)) (by first | omega | (show _ < _; omega) | (simp only []; omega)))
 ·have aH1 := aH1b
  try simp only [qqT, qqF, qqN, qqM, qqL, qqE] at aH1
  refine VC.exit ?_
  refine VC.seq ?_
  have hqe : q = (paceO p b).needs.length := by omega
  rw [hqe]
  refine VC.region ?_
  refine VO.mv rfl rfl rfl rfl ?_
  refine VO.ma rfl rfl rfl rfl ?_
  refine VO.nil ?_
  refine VC.ret ?_
  exact Exists.intro _ (And.intro (RetN.one Tryz.results254 (ResN.v rfl)) (rfl))
set_option maxRecDepth 100000 in
set_option maxHeartbeats 8000000 in
theorem rf_TimesOf {p : List PaceS} {o : List OrdrS} {l : List Int} {start each : Int} (hp : SmPc p) (hk : SchOk p o l start each) :
  SpecN Tryz.prog 141 [avL p, avL o, avInts l, avI start, avI each] (fun y => y = avL (timesQ p o l start each l.length)) := by
 refine SpecN.of_VCN Tryz.func141 rfl Tryz.ntmps141 (Nle rfl) fun w A hB => ?_
 have hnew : True := trivial
 refine VC.seq ?_
 have hl := hk.len
 have ho := hk.ook.len
 have hpl := hp.len
 refine VC.region ?_
 refine VO.ma rfl rfl rfl rfl ?_
 refine VO.nil ?_
 refine VC.sr ?_
 refine VO.mv rfl rfl rfl rfl ?_
 refine VO.val rfl rfl (OpV.len_im rfl Tryz.underlying28 rfl) ?_
 refine VO.op rfl (OpE.make rfl hB rfl Tryz.underlying161 (infoOf Tryz.t165 2 (by kernel_rfl) rfl rfl) (by decide) rfl rfl (n := o.length) rfl rfl (by omega) (made_win o.length) ?_)
 intro g19
 rw [show (rowL (List.replicate o.length (default : WinS))).length = o.length * 2 by rw [rowL_len, List.length_replicate]; rfl]
 refine VO.ma rfl rfl rfl rfl ?_
 refine VO.nil ?_
 refine VC.seq ?_
 refine VC.sr ?_
 refine VO.mv rfl rfl rfl rfl ?_
 refine VO.val rfl rfl (OpV.len_im rfl Tryz.underlying22 rfl) ?_
 refine VO.mv rfl rfl rfl rfl ?_
 refine VO.nil ?_
 refine VC.block ?_
 refine VC.loopK [(0, _), (1, _), (2, _), (3, _), (4, _), (11, _), (20, _), (21, _)] ⟨rfl, rfl, rfl, rfl, rfl, rfl, rfl, rfl, trivial⟩ ({q : Nat // q ≤ l.length}) (fun (iZ : {q : Nat // q ≤ l.length}) => match iZ with | ⟨q, hq⟩ => [(22, avI (q : Int))]) (fun (iZ : {q : Nat // q ≤ l.length}) => match iZ with | ⟨q, hq⟩ => [.box g19 ⟨rowL (timesQ p o l start each q), 165, o.length * 2⟩]) (fun (iZ : {q : Nat // q ≤ l.length}) => match iZ with | ⟨q, hq⟩ => 0) (fun (iZ : {q : Nat // q ≤ l.length}) => match iZ with | ⟨q, hq⟩ => l.length - q) ⟨0, Nat.zero_le _⟩ (Le.mk hB [0] ⟨rfl, rfl, rfl, rfl, rfl, rfl, rfl, rfl, rfl, trivial⟩ rfl rfl (Nat.le_refl _)) ?_
 rintro ⟨q, hq⟩
 show VC _ _ _ _ ⟨[(22, avI (q : Int))] ++ [(0, _), (1, _), (2, _), (3, _), (4, _), (11, _), (20, _), (21, _)], [.box g19 ⟨rowL (timesQ p o l start each q), 165, o.length * 2⟩], 0⟩
 refine VC.sr ?_
 refine VO.val rfl rfl (OpV.lss rfl rfl rfl) ?_
 refine VO.nil ?_
 refine VC.seq ?_
 refine VC.cond rfl (fun aH1b => ?_) (fun aH1b => ?_)
 ·have aH1 := aH1b
  try simp only [qqT, qqF, qqN, qqM, qqL, qqE] at aH1
  refine VC.skip ?_
  refine VC.seq ?_
  refine VC.block ?_
  refine VC.seq ?_
  have hat := hk.at_ (q := q) (by omega)
  have hbd := hk.bd q (by omega)
  have hfe := endP_from p o l start each q
  have hlo : 0 ≤ longO p (orA o (l.getD q 0)) ∧ longO p (orA o (l.getD q 0)) ≤ 1000000000000 := hk.long hat.2
  have hdu : (0 ≤ (orA o (l.getD q 0)).ready ∧ (orA o (l.getD q 0)).ready ≤ 345686399999) ∧ 0 ≤ (orA o (l.getD q 0)).due ∧ (orA o (l.getD q 0)).due ≤ 345686399999 := (hk.ook.all _ hat.2).2
  have htl := timesQ_len p o l start each q
  have hst := hk.st
  refine VC.region ?_
  refine VO.mv rfl rfl rfl rfl ?_
  refine VO.val rfl rfl (OpV.indexAddr_1 rfl Tryz.underlying22 Tryz.sizeOf3 rfl rfl rfl (by omega)) ?_
  refine VO.val rfl rfl (OpV.load_at rfl hB OutW.no Tryz.isAgg3 rfl rfl) ?_
  refine VO.ma rfl rfl rfl rfl ?_
  refine VO.ma rfl rfl rfl rfl ?_
  refine VO.nil ?_
  refine VC.sr ?_
  refine VO.mv rfl rfl rfl rfl ?_
  refine VO.ma rfl rfl rfl rfl ?_
  refine VO.nil ?_
  refine VC.seq ?_
  refine VC.sr ?_
  refine VO.mv rfl rfl rfl rfl ?_
  refine VO.val rfl rfl (OpV.gtr rfl rfl rfl) ?_
  refine VO.nil ?_
  refine VC.cond rfl (fun h1b => ?_) (fun h1b => ?_)
  ·have h1 := h1b
   try simp only [qqT, qqF, qqN, qqM, qqL, qqE] at h1
   obtain ⟨q', hq'⟩ : ∃ q', q = q' + 1 := ⟨q - 1, by omega⟩
   have hfr : fromP p o l start each q = max (endP p o l start each q' + turnO p each (orA o (l.getD q' 0)) (orA o (l.getD q 0))) (orA o (l.getD q 0)).ready := by rw [hq']; rfl
   have hat1 := hk.at_ (q := q') (by omega)
   have hbd1 := hk.bd q' (by omega)
   have htu : 0 ≤ turnO p each (orA o (l.getD q' 0)) (orA o (l.getD q 0)) ∧ turnO p each (orA o (l.getD q' 0)) (orA o (l.getD q 0)) ≤ 10000000000 := hk.turn hat.2
   have hgot := hk.got (j := q') q (by omega) (by omega)
   refine VC.draw (fun _ => NoB) hB (by kernel_rfl) ?_
   refine VA.take (i := 0) rfl (by kernel_rfl) (by kernel_rfl) (by kernel_rfl) rfl rfl (OpV.move (.inl rfl) rfl) ?_
   refine VA.take (i := 1) rfl (by kernel_rfl) (by kernel_rfl) (by kernel_rfl) rfl rfl (OpV.move (.inl rfl) rfl) ?_
   refine VA.take (i := 2) rfl (by kernel_rfl) (by kernel_rfl) (by kernel_rfl) rfl rfl (OpV.move (.inl rfl) rfl) ?_
   refine VA.take (i := 3) rfl (by kernel_rfl) (by kernel_rfl) (by kernel_rfl) rfl rfl (OpV.sub rfl rfl rfl (by unfold fits; omega)) ?_
   refine VA.take (i := 4) rfl (by kernel_rfl) (by kernel_rfl) (by kernel_rfl) rfl rfl (OpV.indexAddr_1 rfl Tryz.underlying22 Tryz.sizeOf3 rfl rfl (show ((q : Int) - 1) = (q' : Int) by omega) (by omega)) ?_
   refine VA.take (i := 5) rfl (by kernel_rfl) (by kernel_rfl) (by kernel_rfl) rfl rfl (OpV.load_at rfl hB OutW.wi0 Tryz.isAgg3 rfl rfl) ?_
   refine VA.take (i := 6) rfl (by kernel_rfl) (by kernel_rfl) (by kernel_rfl) rfl rfl (OpV.indexAddr_q rfl Tryz.underlying161 Tryz.sizeOf165 rfl rfl (Int.toNat_of_nonneg hat1.1).symm hat1.2) ?_
   refine VA.take (i := 7) rfl (by kernel_rfl) (by kernel_rfl) (by kernel_rfl) rfl rfl (OpV.fieldAddrO 1 rfl Tryz.underlying165 rfl rfl Tryz.sizeOf3 rfl) ?_
   refine VA.take (i := 8) rfl (by kernel_rfl) (by kernel_rfl) (by kernel_rfl) rfl rfl (OpV.load_own (i := 0) rfl hB Tryz.isAgg3 rfl rfl (rowL_at rfl (by omega) (by decide)) Wi.not0) ?_
   refine VA.le _ (Le.recast (t := 38) (y := avI (endP p o l start each q')) rfl (fun w Z u h => by rw [hgot] at h; exact h)) ?_
   refine VA.take (i := 9) rfl (by kernel_rfl) (by kernel_rfl) (by kernel_rfl) rfl rfl (OpV.move (.inl rfl) rfl) ?_
   refine VA.take (i := 10) rfl (by kernel_rfl) (by kernel_rfl) (by kernel_rfl) rfl rfl (OpV.move (.inl rfl) rfl) ?_
   refine VA.take (i := 11) rfl (by kernel_rfl) (by kernel_rfl) (by kernel_rfl) rfl rfl (OpV.move (.inl rfl) rfl) ?_
   refine VA.take (i := 12) rfl (by kernel_rfl) (by kernel_rfl) (by kernel_rfl) rfl rfl (OpV.move (.inl rfl) rfl) ?_
   refine VA.take (i := 13) rfl (by kernel_rfl) (by kernel_rfl) (by kernel_rfl) rfl rfl (OpV.sub rfl rfl rfl (by unfold fits; omega)) ?_
   refine VA.take (i := 14) rfl (by kernel_rfl) (by kernel_rfl) (by kernel_rfl) rfl rfl (OpV.indexAddr_1 rfl Tryz.underlying22 Tryz.sizeOf3 rfl rfl (show ((q : Int) - 1) = (q' : Int) by omega) (by omega)) ?_
   refine VA.take (i := 15) rfl (by kernel_rfl) (by kernel_rfl) (by kernel_rfl) rfl rfl (OpV.load_at rfl hB OutW.wi0 Tryz.isAgg3 rfl rfl) ?_
   refine VA.take (i := 16) rfl (by kernel_rfl) (by kernel_rfl) (by kernel_rfl) rfl rfl (OpV.indexAddr_E rfl Tryz.underlying28 Tryz.sizeOf35 rfl rfl (Int.toNat_of_nonneg hat1.1).symm hat1.2) ?_
   refine VA.take (i := 17) rfl (by kernel_rfl) (by kernel_rfl) (by kernel_rfl) rfl rfl (OpV.fieldAddr_atO 1 rfl Tryz.underlying35 rfl rfl Tryz.sizeOf9 rfl rfl) ?_
   refine VA.take (i := 18) rfl (by kernel_rfl) (by kernel_rfl) (by kernel_rfl) rfl rfl (OpV.load_at rfl hB OutW.wi0 Tryz.isAgg9 rfl rfl) ?_
   refine VA.take (i := 19) rfl (by kernel_rfl) (by kernel_rfl) (by kernel_rfl) rfl rfl (OpV.move (.inl rfl) rfl) ?_
   refine VA.take (i := 20) rfl (by kernel_rfl) (by kernel_rfl) (by kernel_rfl) rfl rfl (OpV.move (.inl rfl) rfl) ?_
   refine VA.take (i := 21) rfl (by kernel_rfl) (by kernel_rfl) (by kernel_rfl) rfl rfl (OpV.indexAddr_E rfl Tryz.underlying28 Tryz.sizeOf35 rfl rfl (Int.toNat_of_nonneg hat.1).symm hat.2) ?_
   refine VA.take (i := 22) rfl (by kernel_rfl) (by kernel_rfl) (by kernel_rfl) rfl rfl (OpV.fieldAddr_atO 1 rfl Tryz.underlying35 rfl rfl Tryz.sizeOf9 rfl rfl) ?_
   refine VA.take (i := 23) rfl (by kernel_rfl) (by kernel_rfl) (by kernel_rfl) rfl rfl (OpV.load_at rfl hB OutW.wi0 Tryz.isAgg9 rfl rfl) ?_
   refine VA.take (i := 24) rfl (by kernel_rfl) (by kernel_rfl) (by kernel_rfl) rfl rfl (OpV.move (.inl rfl) rfl) ?_
   refine VA.all (rs := [25]) (by kernel_rfl) (by decide) ?_
   refine ⟨⟨_, rfl, .inl rfl, ?_⟩, trivial⟩
   refine OpE.call rfl hB rfl Tryz.call254 rfl (SpecN.spec (rf_ChangeoverOf (a := (orA o (l.getD q' 0)).product) (b := (orA o (l.getD q 0)).product) hp hk.ea)) ?_
   rintro _ rfl
   refine VA.le _ (Le.recast (t := 55) (y := avI (turnO p each (orA o (l.getD q' 0)) (orA o (l.getD q 0)))) rfl (fun w Z u h => h)) ?_
   refine VA.take (i := 26) rfl (by kernel_rfl) (by kernel_rfl) (by kernel_rfl) rfl rfl (OpV.add rfl rfl rfl (by unfold fits; omega)) ?_
   refine VA.take (i := 27) rfl (by kernel_rfl) (by kernel_rfl) (by kernel_rfl) rfl rfl (OpV.move (.inr rfl) rfl) ?_
   refine VA.done (by kernel_rfl) ?_
   refine VC.sr ?_
   refine VO.mv rfl rfl rfl rfl ?_
   refine VO.mv rfl rfl rfl rfl ?_
   refine VO.mv rfl rfl rfl rfl ?_
   refine VO.val rfl rfl (OpV.indexAddr_E rfl Tryz.underlying28 Tryz.sizeOf35 rfl rfl (Int.toNat_of_nonneg hat.1).symm hat.2) ?_
   refine VO.val rfl rfl (OpV.fieldAddr_atO 3 rfl Tryz.underlying35 rfl rfl Tryz.sizeOf3 rfl rfl) ?_
   refine VO.val rfl rfl (OpV.load_at rfl hB OutW.no Tryz.isAgg3 rfl rfl) ?_
   refine VO.le _ (Le.recast (t := 62) (y := avI (orA o (l.getD q 0)).ready) rfl (fun w Z u h => h)) ?_
   refine VO.val rfl rfl (OpV.max2 rfl rfl rfl) ?_
   refine VO.le _ (Le.recast (t := 63) (y := avI (fromP p o l start each q)) rfl (fun w Z u h => by rw [hfr]; exact h)) ?_
   refine VO.ma rfl rfl rfl rfl ?_
   refine VO.nil ?_
   refine VC.sr ?_
   refine VO.mv rfl rfl rfl rfl ?_
   refine VO.mv rfl rfl rfl rfl ?_
   refine VO.mv rfl rfl rfl rfl ?_
   refine VO.val rfl rfl (OpV.indexAddr_E rfl Tryz.underlying28 Tryz.sizeOf35 rfl rfl (Int.toNat_of_nonneg hat.1).symm hat.2) ?_
   refine VO.val rfl rfl (OpV.fieldAddr_atO 1 rfl Tryz.underlying35 rfl rfl Tryz.sizeOf9 rfl rfl) ?_
   refine VO.val rfl rfl (OpV.load_at rfl hB OutW.no Tryz.isAgg9 rfl rfl) ?_
   refine VO.op rfl (OpE.call rfl hB rfl Tryz.call122 rfl (rf_PaceOf (k := (orA o (l.getD q 0)).product) (by omega)) ?_)
   rintro _ rfl
   refine VO.mv rfl rfl rfl rfl ?_
   refine VO.val rfl rfl (OpV.extract rfl rfl rfl) ?_
   refine VO.val rfl rfl (OpV.extract rfl rfl rfl) ?_
   refine VO.op rfl (OpE.alloc rfl hB rfl Tryz.zeroValue142 rfl ?_)
   intro g15
   refine VO.op rfl (OpE.store (i := 1) rfl hB rfl Tryz.sizeOf142 rfl rfl rfl rfl rfl rfl (Nle rfl) trivial ?_)
   refine VO.ma rfl rfl rfl rfl ?_
   refine VO.nil ?_
   refine VC.le ⟨[(0, _), (1, _), (2, _), (3, _), (4, _), (11, _), (13, _), (14, _), (15, _), (20, _), (21, _), (22, _)], [.box _ ⟨_, _, _⟩, boxPc _ (paceO p (orA o (l.getD q 0)).product) 142], _⟩ (Le.mk hB [0, 1] ⟨rfl, rfl, rfl, rfl, rfl, rfl, rfl, rfl, rfl, rfl, rfl, rfl, trivial⟩ rfl rfl (Nat.le_refl _)) ?_
   refine VC.draw (fun j b => j = 15 ∧ b = g19) hB (by kernel_rfl) ?_
   refine VA.take (i := 0) rfl (by kernel_rfl) (by kernel_rfl) (by kernel_rfl) rfl rfl (OpV.move (.inl rfl) rfl) ?_
   refine VA.take (i := 1) rfl (by kernel_rfl) (by kernel_rfl) (by kernel_rfl) rfl rfl (OpV.move (.inl rfl) rfl) ?_
   refine VA.take (i := 2) rfl (by kernel_rfl) (by kernel_rfl) (by kernel_rfl) rfl rfl (OpV.move (.inl rfl) rfl) ?_
   refine VA.take (i := 3) rfl (by kernel_rfl) (by kernel_rfl) (by kernel_rfl) rfl rfl (OpV.move (.inl rfl) rfl) ?_
   refine VA.take (i := 4) rfl (by kernel_rfl) (by kernel_rfl) (by kernel_rfl) rfl rfl (OpV.fieldAddrO 1 rfl Tryz.underlying142 rfl rfl Tryz.sizeOf3 rfl) ?_
   refine VA.take (i := 5) rfl (by kernel_rfl) (by kernel_rfl) (by kernel_rfl) rfl rfl (OpV.load_own (i := 1) rfl hB Tryz.isAgg3 rfl rfl rfl (by first | exact Wi.not1 (by kernel_rfl) | exact Wi.not2 (by kernel_rfl) (by kernel_rfl) | exact Wi.notX (by kernel_rfl))) ?_
   refine VA.take (i := 6) rfl (by kernel_rfl) (by kernel_rfl) (by kernel_rfl) rfl rfl (OpV.move (.inl rfl) rfl) ?_
   refine VA.take (i := 7) rfl (by kernel_rfl) (by kernel_rfl) (by kernel_rfl) rfl rfl (OpV.move (.inl rfl) rfl) ?_
   refine VA.take (i := 8) rfl (by kernel_rfl) (by kernel_rfl) (by kernel_rfl) rfl rfl (OpV.indexAddr_E rfl Tryz.underlying28 Tryz.sizeOf35 rfl rfl (Int.toNat_of_nonneg hat.1).symm hat.2) ?_
   refine VA.take (i := 9) rfl (by kernel_rfl) (by kernel_rfl) (by kernel_rfl) rfl rfl (OpV.fieldAddr_atO 2 rfl Tryz.underlying35 rfl rfl Tryz.sizeOf3 rfl rfl) ?_
   refine VA.take (i := 10) rfl (by kernel_rfl) (by kernel_rfl) (by kernel_rfl) rfl rfl (OpV.load_at rfl hB (by first | exact OutW.wi1 (k := 0) rfl rfl | exact OutW.wi1 (k := 1) rfl rfl) Tryz.isAgg3 rfl rfl) ?_
   refine VA.take (i := 11) rfl (by kernel_rfl) (by kernel_rfl) (by kernel_rfl) rfl rfl (OpV.mul rfl rfl rfl ((by show fits (longO p (orA o (l.getD q 0))); unfold fits; omega))) ?_
   refine VA.le _ (Le.recast (t := 85) (y := avI (longO p (orA o (l.getD q 0)))) rfl (fun w Z u h => h)) ?_
   refine VA.take (i := 12) rfl (by kernel_rfl) (by kernel_rfl) (by kernel_rfl) rfl rfl (OpV.add rfl rfl rfl (by unfold fits; omega)) ?_
   refine VA.le _ (Le.recast (t := 86) (y := avI (endP p o l start each q)) rfl (fun w Z u h => by rw [hfe]; exact h)) ?_
   refine VA.take (i := 13) rfl (by kernel_rfl) (by kernel_rfl) (by kernel_rfl) rfl rfl (OpV.build (pls := #[(0, 1), (1, 1)]) rfl Tryz.zeroValue165 Tryz.underlying165 (fun w => by kernel_rfl) rfl rfl) ?_
   refine VA.take (i := 14) rfl (by kernel_rfl) (by kernel_rfl) (by kernel_rfl) rfl rfl (OpV.indexAddr_q rfl Tryz.underlying161 Tryz.sizeOf165 rfl rfl (Int.toNat_of_nonneg hat.1).symm hat.2) ?_
   refine VA.all (rs := [15]) (by kernel_rfl) (by decide) ?_
   refine ⟨⟨_, rfl, .inl rfl, ?_⟩, trivial⟩
   refine OpE.storeE (i := 0) rfl hB rfl Tryz.sizeOf165 rfl rfl rfl rfl rfl rfl (rowL_inE rfl (by omega)) (rowL_setAll (x := winP p o l start each q) rfl (by omega)) (by first | exact ⟨rfl, rfl⟩ | exact .inl ⟨rfl, rfl⟩ | exact .inr ⟨rfl, rfl⟩ | exact ⟨rfl, trivial⟩ | exact .inl ⟨rfl, trivial⟩ | exact .inr ⟨rfl, trivial⟩ | exact ⟨by decide, rfl⟩) ?_
   refine VA.done (by kernel_rfl) ?_
   refine VC.region ?_
   refine VO.val rfl rfl (OpV.add rfl rfl rfl (by unfold fits; omega)) ?_
   refine VO.mv rfl rfl rfl rfl ?_
   refine VO.nil ?_
   exact Exists.intro (⟨q + 1, by omega⟩) (And.intro (Le.mk hB [0] ⟨rfl, rfl, rfl, rfl, rfl, rfl, rfl, rfl, rfl, trivial⟩ rfl rfl (Nat.le_refl _)) (by first | omega | (show _ < _; omega) | (simp only []; omega)))
  ·have h1 := h1b
   try simp only [qqT, qqF, qqN, qqM, qqL, qqE] at h1
   have hq0 : q = 0 := by omega
   have hfr0 : fromP p o l start each q = max start (orA o (l.getD q 0)).ready := by rw [hq0]; rfl
   refine VC.skip ?_
   refine VC.sr ?_
   refine VO.mv rfl rfl rfl rfl ?_
   refine VO.mv rfl rfl rfl rfl ?_
   refine VO.mv rfl rfl rfl rfl ?_
   refine VO.val rfl rfl (OpV.indexAddr_E rfl Tryz.underlying28 Tryz.sizeOf35 rfl rfl (Int.toNat_of_nonneg hat.1).symm hat.2) ?_
   refine VO.val rfl rfl (OpV.fieldAddr_atO 3 rfl Tryz.underlying35 rfl rfl Tryz.sizeOf3 rfl rfl) ?_
   refine VO.val rfl rfl (OpV.load_at rfl hB OutW.no Tryz.isAgg3 rfl rfl) ?_
   refine VO.le _ (Le.recast (t := 62) (y := avI (orA o (l.getD q 0)).ready) rfl (fun w Z u h => h)) ?_
   refine VO.val rfl rfl (OpV.max2 rfl rfl rfl) ?_
   refine VO.le _ (Le.recast (t := 63) (y := avI (fromP p o l start each q)) rfl (fun w Z u h => by rw [hfr0]; exact h)) ?_
   refine VO.ma rfl rfl rfl rfl ?_
   refine VO.nil ?_
   refine VC.sr ?_
   refine VO.mv rfl rfl rfl rfl ?_
   refine VO.mv rfl rfl rfl rfl ?_
   refine VO.mv rfl rfl rfl rfl ?_
   refine VO.val rfl rfl (OpV.indexAddr_E rfl Tryz.underlying28 Tryz.sizeOf35 rfl rfl (Int.toNat_of_nonneg hat.1).symm hat.2) ?_
   refine VO.val rfl rfl (OpV.fieldAddr_atO 1 rfl Tryz.underlying35 rfl rfl Tryz.sizeOf9 rfl rfl) ?_
   refine VO.val rfl rfl (OpV.load_at rfl hB OutW.no Tryz.isAgg9 rfl rfl) ?_
   refine VO.op rfl (OpE.call rfl hB rfl Tryz.call122 rfl (rf_PaceOf (k := (orA o (l.getD q 0)).product) (by omega)) ?_)
   rintro _ rfl
   refine VO.mv rfl rfl rfl rfl ?_
   refine VO.val rfl rfl (OpV.extract rfl rfl rfl) ?_
   refine VO.val rfl rfl (OpV.extract rfl rfl rfl) ?_
   refine VO.op rfl (OpE.alloc rfl hB rfl Tryz.zeroValue142 rfl ?_)
   intro g15
   refine VO.op rfl (OpE.store (i := 1) rfl hB rfl Tryz.sizeOf142 rfl rfl rfl rfl rfl rfl (Nle rfl) trivial ?_)
   refine VO.ma rfl rfl rfl rfl ?_
   refine VO.nil ?_
   refine VC.le ⟨[(0, _), (1, _), (2, _), (3, _), (4, _), (11, _), (13, _), (14, _), (15, _), (20, _), (21, _), (22, _)], [.box _ ⟨_, _, _⟩, boxPc _ (paceO p (orA o (l.getD q 0)).product) 142], _⟩ (Le.mk hB [0, 1] ⟨rfl, rfl, rfl, rfl, rfl, rfl, rfl, rfl, rfl, rfl, rfl, rfl, trivial⟩ rfl rfl (Nat.le_refl _)) ?_
   refine VC.draw (fun j b => j = 15 ∧ b = g19) hB (by kernel_rfl) ?_
   refine VA.take (i := 0) rfl (by kernel_rfl) (by kernel_rfl) (by kernel_rfl) rfl rfl (OpV.move (.inl rfl) rfl) ?_
   refine VA.take (i := 1) rfl (by kernel_rfl) (by kernel_rfl) (by kernel_rfl) rfl rfl (OpV.move (.inl rfl) rfl) ?_
   refine VA.take (i := 2) rfl (by kernel_rfl) (by kernel_rfl) (by kernel_rfl) rfl rfl (OpV.move (.inl rfl) rfl) ?_
   refine VA.take (i := 3) rfl (by kernel_rfl) (by kernel_rfl) (by kernel_rfl) rfl rfl (OpV.move (.inl rfl) rfl) ?_
   refine VA.take (i := 4) rfl (by kernel_rfl) (by kernel_rfl) (by kernel_rfl) rfl rfl (OpV.fieldAddrO 1 rfl Tryz.underlying142 rfl rfl Tryz.sizeOf3 rfl) ?_
   refine VA.take (i := 5) rfl (by kernel_rfl) (by kernel_rfl) (by kernel_rfl) rfl rfl (OpV.load_own (i := 1) rfl hB Tryz.isAgg3 rfl rfl rfl (by first | exact Wi.not1 (by kernel_rfl) | exact Wi.not2 (by kernel_rfl) (by kernel_rfl) | exact Wi.notX (by kernel_rfl))) ?_
   refine VA.take (i := 6) rfl (by kernel_rfl) (by kernel_rfl) (by kernel_rfl) rfl rfl (OpV.move (.inl rfl) rfl) ?_
   refine VA.take (i := 7) rfl (by kernel_rfl) (by kernel_rfl) (by kernel_rfl) rfl rfl (OpV.move (.inl rfl) rfl) ?_
   refine VA.take (i := 8) rfl (by kernel_rfl) (by kernel_rfl) (by kernel_rfl) rfl rfl (OpV.indexAddr_E rfl Tryz.underlying28 Tryz.sizeOf35 rfl rfl (Int.toNat_of_nonneg hat.1).symm hat.2) ?_
   refine VA.take (i := 9) rfl (by kernel_rfl) (by kernel_rfl) (by kernel_rfl) rfl rfl (OpV.fieldAddr_atO 2 rfl Tryz.underlying35 rfl rfl Tryz.sizeOf3 rfl rfl) ?_
   refine VA.take (i := 10) rfl (by kernel_rfl) (by kernel_rfl) (by kernel_rfl) rfl rfl (OpV.load_at rfl hB (by first | exact OutW.wi1 (k := 0) rfl rfl | exact OutW.wi1 (k := 1) rfl rfl) Tryz.isAgg3 rfl rfl) ?_
   refine VA.take (i := 11) rfl (by kernel_rfl) (by kernel_rfl) (by kernel_rfl) rfl rfl (OpV.mul rfl rfl rfl ((by show fits (longO p (orA o (l.getD q 0))); unfold fits; omega))) ?_
   refine VA.le _ (Le.recast (t := 85) (y := avI (longO p (orA o (l.getD q 0)))) rfl (fun w Z u h => h)) ?_
   refine VA.take (i := 12) rfl (by kernel_rfl) (by kernel_rfl) (by kernel_rfl) rfl rfl (OpV.add rfl rfl rfl (by unfold fits; omega)) ?_
   refine VA.le _ (Le.recast (t := 86) (y := avI (endP p o l start each q)) rfl (fun w Z u h => by rw [hfe]; exact h)) ?_
   refine VA.take (i := 13) rfl (by kernel_rfl) (by kernel_rfl) (by kernel_rfl) rfl rfl (OpV.build (pls := #[(0, 1), (1, 1)]) rfl Tryz.zeroValue165 Tryz.underlying165 (fun w => by kernel_rfl) rfl rfl) ?_
   refine VA.take (i := 14) rfl (by kernel_rfl) (by kernel_rfl) (by kernel_rfl) rfl rfl (OpV.indexAddr_q rfl Tryz.underlying161 Tryz.sizeOf165 rfl rfl (Int.toNat_of_nonneg hat.1).symm hat.2) ?_
   refine VA.all (rs := [15]) (by kernel_rfl) (by decide) ?_
   refine ⟨⟨_, rfl, .inl rfl, ?_⟩, trivial⟩
   refine OpE.storeE (i := 0) rfl hB rfl Tryz.sizeOf165 rfl rfl rfl rfl rfl rfl (rowL_inE rfl (by omega)) (rowL_setAll (x := winP p o l start each q) rfl (by omega)) (by first | exact ⟨rfl, rfl⟩ | exact .inl ⟨rfl, rfl⟩ | exact .inr ⟨rfl, rfl⟩ | exact ⟨rfl, trivial⟩ | exact .inl ⟨rfl, trivial⟩ | exact .inr ⟨rfl, trivial⟩ | exact ⟨by decide, rfl⟩) ?_
   refine VA.done (by kernel_rfl) ?_
   refine VC.region ?_
   refine VO.val rfl rfl (OpV.add rfl rfl rfl (by unfold fits; omega)) ?_
   refine VO.mv rfl rfl rfl rfl ?_
   refine VO.nil ?_
   exact Exists.intro (⟨q + 1, by omega⟩) (And.intro (Le.mk hB [0] ⟨rfl, rfl, rfl, rfl, rfl, rfl, rfl, rfl, rfl, trivial⟩ rfl rfl (Nat.le_refl _)) (by first | omega | (show _ < _; omega) | (simp only []; omega)))
 ·have aH1 := aH1b
  try simp only [qqT, qqF, qqN, qqM, qqL, qqE] at aH1
  refine VC.exit ?_
  refine VC.seq ?_
  obtain rfl : q = l.length := by omega
  refine VC.region ?_
  refine VO.mv rfl rfl rfl rfl ?_
  refine VO.ma rfl rfl rfl rfl ?_
  refine VO.nil ?_
  refine VC.ret ?_
  exact Exists.intro _ (And.intro (RetN.one Tryz.results141 (ResN.box (i := 0) rfl rfl (by rw [rowL_len, timesQ_len]; exact Nat.le_refl _) (Nat.le_refl _) (by simp only [maxLen]; omega) (flat_win _) (fun w Z u h => by simp only [Nat.zero_add] at h; exact Rep.rowL (timesQ_len _ _ _ _ _ _).symm h))) (rfl))
end Go.Proofs.YtmahammdnmmmoaaGreatDoor
namespace Go.Proofs.YtmahammdnmmmoaaGreatDoor
open Go.RowKit
set_option linter.unusedVariables false
set_option linter.unusedSimpArgs false

abbrev pt (g : Nat) : AV := .v (.pointer (some ⟨g, 0, none⟩))
abbrev ptv (g : Nat) : Value := .pointer (some ⟨g, 0, none⟩)
theorem getD_set_ne {α : Type} {b : List α} {i k : Nat} {x d : α} (h : i ≠ k) : (b.set i x).getD k d = b.getD k d := by
 simp only [List.getD_eq_getElem?_getD, List.getElem?_set, if_neg h]
end Go.Proofs.YtmahammdnmmmoaaGreatDoor
namespace Go.Proofs.YtmahammdnmmmoaaGreatDoor
open Go.RowKit
set_option linter.unusedVariables false
set_option linter.unusedSimpArgs false

section
variable {P : Program} {B : Bs} {W : Nat → Prop} {s : St'} {o : Oper}
theorem OpV.makeFunc4 {fn : Fn} {c1 c2 c3 c4 : Operand} {u1 u2 u3 u4 : Value} (ho : o.op = .makeFunc fn #[] #[c1, c2, c3, c4]) (h1 : evO s c1 = some (.v u1)) (h2 : evO s c2 = some (.v u2)) (h3 : evO s c3 = some (.v u3)) (h4 : evO s c4 = some (.v u4)) : OpV P B W s o (.v (.func fn #[] #[u1, u2, u3, u4])) :=
 OpV.makeFunc ho fun a w hr => by simp [hr.evv h1, hr.evv h2, hr.evv h3, hr.evv h4]
end

end Go.Proofs.YtmahammdnmmmoaaGreatDoor
namespace Go.Proofs.YtmahammdnmmmoaaGreatDoor
open Go.RowKit
set_option linter.unusedVariables false
set_option linter.unusedSimpArgs false
theorem SchOk.to_in {p : List PaceS} {o : List OrdrS} {l : List Int} {start each : Int} (h : SchOk p o l start each) : ∀ i, i < o.length → 0 ≤ ((timesQ p o l start each l.length).getD i default).to ∧ ((timesQ p o l start each l.length).getD i default).to ≤ 300000000000000 := fun i hi => by
 obtain ⟨j, hj, _, e⟩ := h.win hi
 rw [e]
 have hb := h.bd j hj
 have := h.len
 have := h.ook.len
 show 0 ≤ endP p o l start each j ∧ endP p o l start each j ≤ _
 omega
theorem SchOk.due_in {p : List PaceS} {o : List OrdrS} {l : List Int} {start each : Int} (h : SchOk p o l start each) : ∀ i, i < o.length → 0 ≤ (o.getD i default).due ∧ (o.getD i default).due ≤ 345686399999 := fun i hi => (h.ook.all i hi).2.2
set_option maxRecDepth 100000 in
set_option maxHeartbeats 8000000 in
theorem rf_LateOf {p : List PaceS} {o : List OrdrS} {l : List Int} {start each : Int} (hp : SmPc p) (hk : SchOk p o l start each) :
  SpecN Tryz.prog 125 [avL p, avL o, avInts l, avI start, avI each] (fun y => y = .tup [avI (resP p o l start each l.length).late, avI (resP p o l start each l.length).many]) := by
 refine SpecN.of_VCN Tryz.func125 rfl Tryz.ntmps125 (Nle rfl) fun w A hB => ?_
 have hnew : True := trivial
 refine VC.seq ?_
 have hl := hk.len
 have ho := hk.ook.len
 have hT := rf_TimesOf hp hk
 have hle := hk.late_eq
 have hti := hk.to_in
 have hdi := hk.due_in
 have htl := timesQ_len p o l start each l.length
 generalize timesQ p o l start each l.length = W at *
 have hin := lateS_in o W (B := 300000000000000) (fun i hi => by have := hti i (by omega); have := hdi i (by omega); omega) (by decide)
 rw [← hle.1, ← hle.2]
 refine VC.region ?_
 refine VO.ma rfl rfl rfl rfl ?_
 refine VO.ma rfl rfl rfl rfl ?_
 refine VO.nil ?_
 refine VC.sr ?_
 refine VO.ma rfl rfl rfl rfl ?_
 refine VO.ma rfl rfl rfl rfl ?_
 refine VO.nil ?_
 refine VC.seq ?_
 refine VC.sr ?_
 refine VO.mv rfl rfl rfl rfl ?_
 refine VO.mv rfl rfl rfl rfl ?_
 refine VO.mv rfl rfl rfl rfl ?_
 refine VO.mv rfl rfl rfl rfl ?_
 refine VO.mv rfl rfl rfl rfl ?_
 refine VO.op rfl (OpE.call rfl hB rfl Tryz.call141 rfl (SpecN.spec (hT)) ?_)
 rintro _ rfl
 refine VO.val rfl rfl (OpV.len_im rfl Tryz.underlying161 rfl) ?_
 refine VO.mv rfl rfl rfl rfl ?_
 refine VO.nil ?_
 refine VC.block ?_
 refine VC.loopK [(1, _), (22, _), (23, _)] ⟨rfl, rfl, rfl, trivial⟩ ({q : Nat // q ≤ W.length}) (fun (iZ : {q : Nat // q ≤ W.length}) => match iZ with | ⟨q, hq⟩ => [(12, avI (lateS o W q)), (13, avI (manyS o W q)), (24, avI (q : Int))]) (fun (iZ : {q : Nat // q ≤ W.length}) => match iZ with | ⟨q, hq⟩ => []) (fun (iZ : {q : Nat // q ≤ W.length}) => match iZ with | ⟨q, hq⟩ => 0) (fun (iZ : {q : Nat // q ≤ W.length}) => match iZ with | ⟨q, hq⟩ => W.length - q) ⟨0, Nat.zero_le _⟩ (Le.mk hB [] ⟨rfl, rfl, rfl, rfl, rfl, rfl, trivial⟩ rfl rfl (Nat.le_refl _)) ?_
 rintro ⟨q, hq⟩
 show VC _ _ _ _ ⟨[(12, avI (lateS o W q)), (13, avI (manyS o W q)), (24, avI (q : Int))] ++ [(1, _), (22, _), (23, _)], [], 0⟩
 refine VC.sr ?_
 refine VO.val rfl rfl (OpV.lss rfl rfl rfl) ?_
 refine VO.nil ?_
 refine VC.seq ?_
 refine VC.cond rfl (fun aH1b => ?_) (fun aH1b => ?_)
 ·have aH1 := aH1b
  try simp only [qqT, qqF, qqN, qqM, qqL, qqE] at aH1
  refine VC.skip ?_
  refine VC.seq ?_
  refine VC.block ?_
  refine VC.seq ?_
  have hq1 := hti q (by omega)
  have hq2 := hdi q (by omega)
  have hq3 := hin q (by omega)
  refine VC.region ?_
  refine VO.mv rfl rfl rfl rfl ?_
  refine VO.val rfl rfl (OpV.indexAddr_E rfl Tryz.underlying161 Tryz.sizeOf165 rfl rfl rfl (by omega)) ?_
  refine VO.val rfl rfl (OpV.loadK_at rfl hB OutW.no Tryz.isAgg165 Tryz.sizeOf165 rfl rfl) ?_
  refine VO.op rfl (OpE.alloc rfl hB rfl Tryz.zeroValue165 rfl ?_)
  intro g15
  refine VO.ma rfl rfl rfl rfl ?_
  refine VO.op rfl (OpE.store (i := 0) rfl hB rfl Tryz.sizeOf165 rfl rfl rfl rfl rfl rfl (Nle rfl) trivial ?_)
  refine VO.nil ?_
  refine VC.seq ?_
  refine VC.draw (fun _ => NoB) hB (by kernel_rfl) ?_
  refine VA.take (i := 0) rfl (by kernel_rfl) (by kernel_rfl) (by kernel_rfl) rfl rfl (OpV.fieldAddrO 1 rfl Tryz.underlying165 rfl rfl Tryz.sizeOf3 rfl) ?_
  refine VA.take (i := 1) rfl (by kernel_rfl) (by kernel_rfl) (by kernel_rfl) rfl rfl (OpV.load_own (i := 0) rfl hB Tryz.isAgg3 rfl rfl rfl Wi.not0) ?_
  refine VA.take (i := 2) rfl (by kernel_rfl) (by kernel_rfl) (by kernel_rfl) rfl rfl (OpV.move (.inl rfl) rfl) ?_
  refine VA.take (i := 3) rfl (by kernel_rfl) (by kernel_rfl) (by kernel_rfl) rfl rfl (OpV.move (.inl rfl) rfl) ?_
  refine VA.take (i := 4) rfl (by kernel_rfl) (by kernel_rfl) (by kernel_rfl) rfl rfl (OpV.indexAddr_E rfl Tryz.underlying28 Tryz.sizeOf35 rfl rfl rfl (by omega)) ?_
  refine VA.take (i := 5) rfl (by kernel_rfl) (by kernel_rfl) (by kernel_rfl) rfl rfl (OpV.fieldAddr_atO 4 rfl Tryz.underlying35 rfl rfl Tryz.sizeOf3 rfl rfl) ?_
  refine VA.take (i := 6) rfl (by kernel_rfl) (by kernel_rfl) (by kernel_rfl) rfl rfl (OpV.load_at rfl hB OutW.wi0 Tryz.isAgg3 rfl rfl) ?_
  refine VA.take (i := 7) rfl (by kernel_rfl) (by kernel_rfl) (by kernel_rfl) rfl rfl (OpV.sub rfl rfl rfl (by unfold fits; omega)) ?_
  refine VA.take (i := 8) rfl (by kernel_rfl) (by kernel_rfl) (by kernel_rfl) rfl rfl (OpV.move (.inr rfl) rfl) ?_
  refine VA.done (by kernel_rfl) ?_
  refine VC.sr ?_
  refine VO.mv rfl rfl rfl rfl ?_
  refine VO.val rfl rfl (OpV.gtr rfl rfl rfl) ?_
  refine VO.nil ?_
  refine VC.cond rfl (fun h1b => ?_) (fun h1b => ?_)
  ·have h1 := h1b
   try simp only [qqT, qqF, qqN, qqM, qqL, qqE] at h1
   refine VC.region ?_
   refine VO.mv rfl rfl rfl rfl ?_
   refine VO.mv rfl rfl rfl rfl ?_
   refine VO.val rfl rfl (OpV.add rfl rfl rfl (by unfold fits; omega)) ?_
   refine VO.mv rfl rfl rfl rfl ?_
   refine VO.val rfl rfl (OpV.add rfl rfl rfl (by unfold fits; omega)) ?_
   refine VO.ma rfl rfl rfl rfl ?_
   refine VO.ma rfl rfl rfl rfl ?_
   refine VO.nil ?_
   refine VC.region ?_
   refine VO.val rfl rfl (OpV.add rfl rfl rfl (by unfold fits; omega)) ?_
   refine VO.mv rfl rfl rfl rfl ?_
   refine VO.nil ?_
   exact Exists.intro (⟨q + 1, by omega⟩) (And.intro (Le.mk hB [] ⟨(by first | (rw [lateS, if_pos h1]; rfl) | (rw [lateS, if_neg (by omega)]; rfl)), (by first | (rw [manyS, if_pos h1]; rfl) | (rw [manyS, if_neg (by omega)]; rfl)), rfl, rfl, rfl, rfl, trivial⟩ rfl rfl (Nat.le_refl _)) (by first | omega | (show _ < _; omega) | (simp only []; omega)))
  ·have h1 := h1b
   try simp only [qqT, qqF, qqN, qqM, qqL, qqE] at h1
   refine VC.skip ?_
   refine VC.region ?_
   refine VO.val rfl rfl (OpV.add rfl rfl rfl (by unfold fits; omega)) ?_
   refine VO.mv rfl rfl rfl rfl ?_
   refine VO.nil ?_
   exact Exists.intro (⟨q + 1, by omega⟩) (And.intro (Le.mk hB [] ⟨(by first | (rw [lateS, if_pos h1]; rfl) | (rw [lateS, if_neg (by omega)]; rfl)), (by first | (rw [manyS, if_pos h1]; rfl) | (rw [manyS, if_neg (by omega)]; rfl)), rfl, rfl, rfl, rfl, trivial⟩ rfl rfl (Nat.le_refl _)) (by first | omega | (show _ < _; omega) | (simp only []; omega)))
 ·have aH1 := aH1b
  try simp only [qqT, qqF, qqN, qqM, qqL, qqE] at aH1
  refine VC.exit ?_
  refine VC.seq ?_
  obtain rfl : q = W.length := by omega
  rw [htl]
  refine VC.region ?_
  refine VO.mv rfl rfl rfl rfl ?_
  refine VO.mv rfl rfl rfl rfl ?_
  refine VO.ma rfl rfl rfl rfl ?_
  refine VO.ma rfl rfl rfl rfl ?_
  refine VO.nil ?_
  refine VC.ret ?_
  exact Exists.intro _ (And.intro (RetN.two Tryz.results125 (ResN.v rfl) (ResN.v rfl)) (rfl))
set_option maxRecDepth 100000 in
theorem plan_result1 {i : Int} {x : WinS} (h : True) :
  SpecH Tryz.prog 238 [avI i, .agg [avI x.fr, avI x.to]] [] (fun y hp' => hp' = []) := by
 refine SpecH.of_VC Tryz.func238 rfl Tryz.ntmps238 (Nle rfl) fun w A hB => ?_
 have hnew : True := trivial
 refine VC.region ?_
 refine VO.op rfl (OpE.box rfl hB rfl rfl rfl ?_)
 intro g3
 refine VO.le _ (Le.drop 1) ?_
 refine VO.nil ?_
 exact Exists.intro _ (And.intro (RetV.none Tryz.results238) (rfl))
theorem res_does (n : Nat) : DoesW n (fun (a : Unit) h => h = []) (fun a i w => ()) Tryz.prog 238 #[] := by
 rintro i w a h h0 h1 rfl
 exact (plan_result1 (i := i) (x := w) trivial)
set_option maxRecDepth 100000 in
theorem plan_result {p : List PaceS} {o : List OrdrS} {l : List Int} {start each : Int} (hk : SchOk p o l start each) :
  SpecN Tryz.prog 117 [.at_ 3 (schC p o each), avInts l, avI start] (fun y => y = .agg [avI (resP p o l start each l.length).late, avI (resP p o l start each l.length).many, avI (resP p o l start each l.length).en]) := by
 refine SpecN.of_VCN Tryz.func117 rfl Tryz.ntmps117 (Nle rfl) fun w A hB => ?_
 have hnew : True := trivial
 refine VC.sr ?_
 refine VO.op rfl (OpE.alloc rfl hB rfl Tryz.zeroValue150 rfl ?_)
 intro g6
 refine VO.nil ?_
 refine VC.sr ?_
 refine VO.mv rfl rfl rfl rfl ?_
 refine VO.mv rfl rfl rfl rfl ?_
 refine VO.mv rfl rfl rfl rfl ?_
 refine VO.op rfl (OpE.callH (rest := [.box g6 ⟨_, _, _⟩]) rfl hB rfl Tryz.call136 rfl rfl (plan_run (h := []) hk Tryz.call238 (res_does _) (a := ()) rfl) (List.Perm.refl _) (fun _ _ => trivial) ?_)
 rintro _ _ ⟨_, e1, e2, rfl, rfl, rfl⟩
 refine VO.le _ (Le.drop 2) ?_
 refine VO.op rfl (OpE.store (i := 0) rfl hB rfl Tryz.sizeOf150 rfl rfl rfl rfl rfl rfl (Nle rfl) trivial ?_)
 refine VO.nil ?_
 refine VC.ret ?_
 exact Exists.intro _ (And.intro (RetN.one Tryz.results117 ((by first | exact ResN.cellF (i := 0) Tryz.isAgg150 Tryz.sizeOf150 rfl rfl rfl (flat_ofB rfl)))) (rfl))
end Go.Proofs.YtmahammdnmmmoaaGreatDoor
namespace Go.Proofs.YtmahammdnmmmoaaGreatDoor
open Go.RowKit
set_option linter.unusedVariables false
set_option linter.unusedSimpArgs false
def lateZ (p : List PaceS) (o : List OrdrS) (l : List Int) (e s : Int) : Int := (resP p o l s e l.length).late
theorem late_mono {p : List PaceS} {o : List OrdrS} {l : List Int} {e s s' : Int} (h : s ≤ s') : lateZ p o l e s ≤ lateZ p o l e s' := by
 have key : ∀ q, (resP p o l s e q).late ≤ (resP p o l s' e q).late := by
  intro q
  induction q with
  | zero => exact Int.le_refl _
  | succ q ih =>
   have := (later_end (p := p) (o := o) (l := l) (each := e) h q).2
   rw [resP_late, resP_late]
   split <;> split <;> omega
 exact key _
theorem late_up {p : List PaceS} {o : List OrdrS} {l : List Int} {e m s : Int} (h : 0 < lateZ p o l e m) (hs : m ≤ s) : 0 < lateZ p o l e s := by
 have := late_mono (p := p) (o := o) (l := l) (e := e) hs
 omega
theorem SchOk.start_at {p : List PaceS} {o : List OrdrS} {l : List Int} {s e : Int} (h : SchOk p o l s e) {s' : Int} (h1 : 0 ≤ s') (h2 : s' ≤ 345686399999) : SchOk p o l s' e := ⟨h.pok, h.ook, h.has, h.len, h.ord, ⟨h1, h2⟩, h.ea⟩
def latP (p : List PaceS) (o : List OrdrS) (l : List Int) (e : Int) (a : Int) (k : Bool) : Prop :=
 if scheF p o l 0 e ≠ 0 then a = 0 ∧ k = false else if 0 < lateZ p o l e 0 then a = 0 ∧ k = false else k = true ∧ (0 ≤ a ∧ a ≤ 345686399999) ∧ lateZ p o l e a ≤ 0 ∧ ∀ s, a < s → s ≤ 345686399999 → 0 < lateZ p o l e s
section
variable {p : List PaceS} {o : List OrdrS} {l : List Int} {e : Int}
theorem latP_bad (h : scheF p o l 0 e ≠ 0) : latP p o l e 0 false := by unfold latP; rw [if_pos h]; exact ⟨rfl, rfl⟩
theorem latP_no (h : scheF p o l 0 e = 0) (h2 : 0 < lateZ p o l e 0) : latP p o l e 0 false := by unfold latP; rw [if_neg (by omega), if_pos h2]; exact ⟨rfl, rfl⟩
theorem latP_yes {a : Int} (h : scheF p o l 0 e = 0) (h2 : ¬ 0 < lateZ p o l e 0) (h3 : (0 ≤ a ∧ a ≤ 345686399999) ∧ lateZ p o l e a ≤ 0 ∧ ∀ s, a < s → s ≤ 345686399999 → 0 < lateZ p o l e s) : latP p o l e a true := by unfold latP; rw [if_neg (by omega), if_neg h2]; exact ⟨rfl, h3⟩
theorem latP_uniq {a b : Int} {k m : Bool} (h : latP p o l e a k) (h2 : latP p o l e b m) : a = b ∧ k = m := by
 unfold latP at h h2
 split at h
 ·rename_i h0; rw [if_pos h0] at h2; exact ⟨by omega, by rw [h.2, h2.2]⟩
 ·rename_i h0
  rw [if_neg h0] at h2
  split at h
  ·rename_i h1; rw [if_pos h1] at h2; exact ⟨by omega, by rw [h.2, h2.2]⟩
  ·rename_i h1
   rw [if_neg h1] at h2
   refine ⟨?_, by rw [h.1, h2.1]⟩
   have h3 := h.2.2.2 b
   have h4 := h2.2.2.2 a
   have := h.2.2.1
   have := h2.2.2.1
   have := h.2.1
   have := h2.2.1
   omega
end
theorem half_in {a b : Int} (h0 : 0 ≤ a) (h1 : a < b) : ∃ m : Int, (a + b).tdiv 2 = m ∧ a ≤ m ∧ m < b ∧ (a + 1 < b → a < m) := ⟨_, rfl, by rw [Int.tdiv_eq_ediv_of_nonneg (by omega)]; omega, by rw [Int.tdiv_eq_ediv_of_nonneg (by omega)]; omega, by intro _; rw [Int.tdiv_eq_ediv_of_nonneg (by omega)]; omega⟩
set_option maxRecDepth 100000 in
set_option maxHeartbeats 8000000 in
theorem plan_Latest {p : List PaceS} {o : List OrdrS} {l : List Int} {each : Int} (hp : SmPc p) (ho : SmOr o) (hl : l.length ≤ 1000000) :
  Spec Tryz.prog 33 [avL p, avL o, avInts l, avI each] (fun y => ∃ a k, latP p o l each a k ∧ y = .tup [avI a, avB k, avI (scheF p o l 0 each)]) := by
 refine Spec.of_VC Tryz.func33 rfl Tryz.ntmps33 (Nle rfl) fun w A hB => ?_
 have hnew : True := trivial
 refine VC.sr ?_
 refine VO.ma rfl rfl rfl rfl ?_
 refine VO.ma rfl rfl rfl rfl ?_
 refine VO.ma rfl rfl rfl rfl ?_
 refine VO.nil ?_
 refine VC.sr ?_
 refine VO.mv rfl rfl rfl rfl ?_
 refine VO.mv rfl rfl rfl rfl ?_
 refine VO.mv rfl rfl rfl rfl ?_
 refine VO.mv rfl rfl rfl rfl ?_
 refine VO.op rfl (OpE.call rfl hB rfl Tryz.call131 rfl (plan_scheduled hp ho hl) ?_)
 rintro _ rfl
 refine VO.mv rfl rfl rfl rfl ?_
 refine VO.val rfl rfl (OpV.extract rfl rfl rfl) ?_
 refine VO.val rfl rfl (OpV.extract rfl rfl rfl) ?_
 refine VO.ma rfl rfl rfl rfl ?_
 refine VO.ma rfl rfl rfl rfl ?_
 refine VO.nil ?_
 refine VC.seq ?_
 refine VC.sr ?_
 refine VO.mv rfl rfl rfl rfl ?_
 refine VO.val rfl rfl (OpV.neq rfl rfl rfl) ?_
 refine VO.nil ?_
 refine VC.cond rfl (fun h0b => ?_) (fun h0b => ?_)
 ·have h0 := h0b
  try simp only [qqT, qqF, qqN, qqM, qqL, qqE] at h0
  refine VC.sr ?_
  refine VO.mv rfl rfl rfl rfl ?_
  refine VO.ma rfl rfl rfl rfl ?_
  refine VO.ma rfl rfl rfl rfl ?_
  refine VO.ma rfl rfl rfl rfl ?_
  refine VO.nil ?_
  refine VC.ret ?_
  exact Exists.intro _ (And.intro (RetV.three Tryz.results33 (ResV.tmp rfl) (ResV.tmp rfl) (ResV.tmp rfl)) (⟨0, false, latP_bad h0, rfl⟩))
 ·have h0 := h0b
  try simp only [qqT, qqF, qqN, qqM, qqL, qqE] at h0
  have h00 : scheF p o l 0 each = 0 := by omega
  have hk := schOk h00
  refine VC.le _ (Le.recast (t := 11) (y := .at_ 3 (schC p o each)) rfl (fun w Z u h => by rw [← schAV_ok h00]; exact h)) ?_
  refine VC.skip ?_
  refine VC.seq ?_
  refine VC.sr ?_
  refine VO.mv rfl rfl rfl rfl ?_
  refine VO.mv rfl rfl rfl rfl ?_
  refine VO.op rfl (OpE.call rfl hB rfl Tryz.call117 rfl (SpecN.spec (plan_result hk)) ?_)
  rintro _ rfl
  refine VO.val rfl rfl (OpV.field1 rfl Tryz.underlying150 rfl Tryz.isAgg3 rfl rfl) ?_
  refine VO.le _ (Le.recast (t := 30) (y := avI (lateZ p o l each 0)) rfl (fun w Z u h => h)) ?_
  refine VO.val rfl rfl (OpV.gtr rfl rfl rfl) ?_
  refine VO.nil ?_
  refine VC.cond rfl (fun h1b => ?_) (fun h1b => ?_)
  ·have h1 := h1b
   try simp only [qqT, qqF, qqN, qqM, qqL, qqE] at h1
   refine VC.sr ?_
   refine VO.ma rfl rfl rfl rfl ?_
   refine VO.ma rfl rfl rfl rfl ?_
   refine VO.ma rfl rfl rfl rfl ?_
   refine VO.nil ?_
   refine VC.ret ?_
   exact Exists.intro _ (And.intro (RetV.three Tryz.results33 (ResV.tmp rfl) (ResV.tmp rfl) (ResV.tmp rfl)) (⟨0, false, latP_no h00 (by omega), by rw [h00]⟩))
  ·have h1 := h1b
   try simp only [qqT, qqF, qqN, qqM, qqL, qqE] at h1
   have h10 : ¬ 0 < lateZ p o l each 0 := by omega
   refine VC.skip ?_
   refine VC.sr ?_
   refine VO.ma rfl rfl rfl rfl ?_
   refine VO.ma rfl rfl rfl rfl ?_
   refine VO.nil ?_
   refine VC.seq ?_
   refine VC.block ?_
   refine VC.loopK [(2, _), (11, _)] ⟨rfl, rfl, trivial⟩ ({t : Int × Int // (0 ≤ t.1 ∧ t.1 ≤ t.2 ∧ t.2 ≤ 345686399999) ∧ lateZ p o l each t.1 ≤ 0 ∧ ∀ s, t.2 < s → s ≤ 345686399999 → 0 < lateZ p o l each s}) (fun (iZ : {t : Int × Int // (0 ≤ t.1 ∧ t.1 ≤ t.2 ∧ t.2 ≤ 345686399999) ∧ lateZ p o l each t.1 ≤ 0 ∧ ∀ s, t.2 < s → s ≤ 345686399999 → 0 < lateZ p o l each s}) => match iZ with | ⟨⟨lo, hi⟩, hlh, hlo, hhi⟩ => [(13, avI lo), (14, avI hi)]) (fun (iZ : {t : Int × Int // (0 ≤ t.1 ∧ t.1 ≤ t.2 ∧ t.2 ≤ 345686399999) ∧ lateZ p o l each t.1 ≤ 0 ∧ ∀ s, t.2 < s → s ≤ 345686399999 → 0 < lateZ p o l each s}) => match iZ with | ⟨⟨lo, hi⟩, hlh, hlo, hhi⟩ => []) (fun (iZ : {t : Int × Int // (0 ≤ t.1 ∧ t.1 ≤ t.2 ∧ t.2 ≤ 345686399999) ∧ lateZ p o l each t.1 ≤ 0 ∧ ∀ s, t.2 < s → s ≤ 345686399999 → 0 < lateZ p o l each s}) => match iZ with | ⟨⟨lo, hi⟩, hlh, hlo, hhi⟩ => 0) (fun (iZ : {t : Int × Int // (0 ≤ t.1 ∧ t.1 ≤ t.2 ∧ t.2 ≤ 345686399999) ∧ lateZ p o l each t.1 ≤ 0 ∧ ∀ s, t.2 < s → s ≤ 345686399999 → 0 < lateZ p o l each s}) => match iZ with | ⟨⟨lo, hi⟩, hlh, hlo, hhi⟩ => (hi - lo).toNat) ⟨(0, 345686399999), by decide, by show lateZ p o l each 0 ≤ 0; omega, fun s h1 h2 => by simp only at h1; omega⟩ (Le.mk hB [] ⟨rfl, rfl, rfl, rfl, trivial⟩ rfl rfl (Nat.le_refl _)) ?_
   rintro ⟨⟨lo, hi⟩, hlh, hlo, hhi⟩
   show VC _ _ _ _ ⟨[(13, avI lo), (14, avI hi)] ++ [(2, _), (11, _)], [], 0⟩
   simp only at hlh hlo hhi
   refine VC.seq ?_
   refine VC.sr ?_
   refine VO.mv rfl rfl rfl rfl ?_
   refine VO.mv rfl rfl rfl rfl ?_
   refine VO.val rfl rfl (OpV.lss rfl rfl rfl) ?_
   refine VO.nil ?_
   refine VC.cond rfl (fun aH1b => ?_) (fun aH1b => ?_)
   ·have aH1 := aH1b
    try simp only [qqT, qqF, qqN, qqM, qqL, qqE] at aH1
    refine VC.skip ?_
    refine VC.block ?_
    refine VC.sr ?_
    refine VO.mv rfl rfl rfl rfl ?_
    refine VO.mv rfl rfl rfl rfl ?_
    refine VO.val rfl rfl (OpV.add rfl rfl rfl (by unfold fits; omega)) ?_
    refine VO.val rfl rfl (OpV.add rfl rfl rfl (by unfold fits; omega)) ?_
    refine VO.val rfl rfl (OpV.quo rfl rfl rfl (by omega) ((by have := half_in (a := lo) (b := hi + 1) (by omega) (by omega); obtain ⟨m, hm, _⟩ := this; rw [show lo + hi + 1 = lo + (hi + 1) by omega, hm]; unfold fits; omega))) ?_
    obtain ⟨m, hme, hm1, hm2, hm3⟩ := half_in (a := lo) (b := hi + 1) (by omega) (by omega)
    refine VO.le _ (Le.recast (t := 39) (y := avI m) rfl (fun w Z u h => by rw [← hme, show lo + (hi + 1) = lo + hi + 1 by omega]; exact h)) ?_
    refine VO.ma rfl rfl rfl rfl ?_
    refine VO.nil ?_
    refine VC.sr ?_
    refine VO.mv rfl rfl rfl rfl ?_
    refine VO.mv rfl rfl rfl rfl ?_
    refine VO.mv rfl rfl rfl rfl ?_
    refine VO.op rfl (OpE.call rfl hB rfl Tryz.call117 rfl (SpecN.spec (plan_result (hk.start_at (s' := m) (by omega) (by omega)))) ?_)
    rintro _ rfl
    refine VO.val rfl rfl (OpV.field1 rfl Tryz.underlying150 rfl Tryz.isAgg3 rfl rfl) ?_
    refine VO.le _ (Le.recast (t := 44) (y := avI (lateZ p o l each m)) rfl (fun w Z u h => h)) ?_
    refine VO.val rfl rfl (OpV.gtr rfl rfl rfl) ?_
    refine VO.nil ?_
    refine VC.cond rfl (fun aH2b => ?_) (fun aH2b => ?_)
    ·have aH2 := aH2b
     try simp only [qqT, qqF, qqN, qqM, qqL, qqE] at aH2
     refine VC.region ?_
     refine VO.mv rfl rfl rfl rfl ?_
     refine VO.val rfl rfl (OpV.sub rfl rfl rfl (by unfold fits; omega)) ?_
     refine VO.ma rfl rfl rfl rfl ?_
     refine VO.nil ?_
     exact Exists.intro (⟨(lo, m - 1), by show 0 ≤ lo ∧ lo ≤ m - 1 ∧ m - 1 ≤ _; omega, hlo, fun s k1 k2 => late_up (m := m) (by omega) (by have : m - 1 < s := k1; omega)⟩) (And.intro (Le.mk hB [] ⟨rfl, rfl, rfl, rfl, trivial⟩ rfl rfl (Nat.le_refl _)) (by first | omega | (show _ < _; omega) | (simp only []; omega)))
    ·have aH2 := aH2b
     try simp only [qqT, qqF, qqN, qqM, qqL, qqE] at aH2
     refine VC.region ?_
     refine VO.mv rfl rfl rfl rfl ?_
     refine VO.ma rfl rfl rfl rfl ?_
     refine VO.nil ?_
     exact Exists.intro (⟨(m, hi), by show 0 ≤ m ∧ m ≤ hi ∧ hi ≤ _; omega, by show lateZ p o l each m ≤ 0; omega, hhi⟩) (And.intro (Le.mk hB [] ⟨rfl, rfl, rfl, rfl, trivial⟩ rfl rfl (Nat.le_refl _)) (by first | omega | (show _ < _; omega) | (simp only []; omega)))
   ·have aH1 := aH1b
    try simp only [qqT, qqF, qqN, qqM, qqL, qqE] at aH1
    refine VC.exit ?_
    refine VC.sr ?_
    refine VO.mv rfl rfl rfl rfl ?_
    refine VO.ma rfl rfl rfl rfl ?_
    refine VO.ma rfl rfl rfl rfl ?_
    refine VO.ma rfl rfl rfl rfl ?_
    refine VO.nil ?_
    refine VC.ret ?_
    exact Exists.intro _ (And.intro (RetV.three Tryz.results33 (ResV.tmp rfl) (ResV.tmp rfl) (ResV.tmp rfl)) (⟨lo, true, latP_yes h00 h10 ⟨by omega, hlo, fun s k1 k2 => hhi s (by omega) k2⟩, by rw [h00]⟩))
abbrev bxL (p : List PaceS) (o : List OrdrS) (l : List Int) (each : Int) (Tp Tq Tl Ti : TypeId) (gp go gl ge : Nat) : List Ent := [.box gp ⟨[avL p], Tp, 1⟩, .box go ⟨[avL o], Tq, 1⟩, .box gl ⟨[avInts l], Tl, 1⟩, .box ge ⟨[avI each], Ti, 1⟩]
set_option maxRecDepth 100000 in
theorem rf_LatestOf1 {p : List PaceS} {o : List OrdrS} {l : List Int} {each s : Int} {gp go gl ge : Nat} {Tp Tq Tl Ti : TypeId} (hp : SmPc p) (hk : SchOk p o l s each) :
  SpecH Tryz.prog 140 [avI s, pt gp, pt go, pt gl, pt ge] (bxL p o l each Tp Tq Tl Ti gp go gl ge) (fun y hp' => y = avB (decide (0 < lateZ p o l each s)) ∧ hp' = bxL p o l each Tp Tq Tl Ti gp go gl ge) := by
 refine SpecH.of_VC Tryz.func140 rfl Tryz.ntmps140 (Nle rfl) fun w A hB => ?_
 have hnew : True := trivial
 refine VC.sr ?_
 refine VO.ma rfl rfl rfl rfl ?_
 refine VO.nil ?_
 refine VC.sr ?_
 refine VO.val rfl rfl (OpV.load_own (i := 0) rfl hB Tryz.isAgg26 rfl rfl rfl (fun h => h)) ?_
 refine VO.val rfl rfl (OpV.load_own (i := 1) rfl hB Tryz.isAgg28 rfl rfl rfl (fun h => h)) ?_
 refine VO.val rfl rfl (OpV.load_own (i := 2) rfl hB Tryz.isAgg22 rfl rfl rfl (fun h => h)) ?_
 refine VO.mv rfl rfl rfl rfl ?_
 refine VO.val rfl rfl (OpV.load_own (i := 3) rfl hB Tryz.isAgg3 rfl rfl rfl (fun h => h)) ?_
 refine VO.op rfl (OpE.call rfl hB rfl Tryz.call125 rfl (SpecN.spec (rf_LateOf hp hk)) ?_)
 rintro _ rfl
 refine VO.mv rfl rfl rfl rfl ?_
 refine VO.val rfl rfl (OpV.extract rfl rfl rfl) ?_
 refine VO.val rfl rfl (OpV.extract rfl rfl rfl) ?_
 refine VO.ma rfl rfl rfl rfl ?_
 refine VO.ma rfl rfl rfl rfl ?_
 refine VO.nil ?_
 refine VC.sr ?_
 refine VO.mv rfl rfl rfl rfl ?_
 refine VO.val rfl rfl (OpV.gtr rfl rfl rfl) ?_
 refine VO.ma rfl rfl rfl rfl ?_
 refine VO.nil ?_
 refine VC.ret ?_
 exact Exists.intro _ (And.intro (RetV.one Tryz.results140 (ResV.tmp rfl)) (⟨rfl, rfl⟩))
set_option maxRecDepth 100000 in
set_option maxHeartbeats 8000000 in
theorem rf_LatestOf {p : List PaceS} {o : List OrdrS} {l : List Int} {each : Int} (hp : SmPc p) (hz : scheF p o l 0 each = 0) :
  Spec Tryz.prog 37 [avL p, avL o, avInts l, avI each] (fun y => ∃ a k, latP p o l each a k ∧ y = .tup [avI a, avB k]) := by
 have hk := schOk hz
 refine Spec.of_VC Tryz.func37 rfl Tryz.ntmps37 (Nle rfl) fun w A hB => ?_
 have hnew : True := trivial
 refine VC.sr ?_
 refine VO.op rfl (OpE.box rfl hB rfl rfl rfl ?_)
 intro gp
 refine VO.op rfl (OpE.box rfl hB rfl rfl rfl ?_)
 intro go
 refine VO.op rfl (OpE.box rfl hB rfl rfl rfl ?_)
 intro gl
 refine VO.op rfl (OpE.box rfl hB rfl rfl rfl ?_)
 intro ge
 refine VO.ma rfl rfl rfl rfl ?_
 refine VO.ma rfl rfl rfl rfl ?_
 refine VO.nil ?_
 refine VC.sr ?_
 refine VO.val rfl rfl (OpV.makeFunc4 rfl rfl rfl rfl rfl) ?_
 refine VO.ma rfl rfl rfl rfl ?_
 refine VO.nil ?_
 refine VC.seq ?_
 refine VC.sr ?_
 refine VO.mv rfl rfl rfl rfl ?_
 refine VO.op rfl (OpE.callH rfl hB rfl Tryz.call140 rfl rfl (rf_LatestOf1 hp hk) (List.Perm.refl _) (fun _ _ => trivial) ?_)
 rintro _ _ ⟨rfl, rfl⟩
 refine VO.nil ?_
 refine VC.cond rfl (fun h0b => ?_) (fun h0b => ?_)
 ·have h0 := h0b
  try simp only [qqT, qqF, qqN, qqM, qqL, qqE] at h0
  refine VC.sr ?_
  refine VO.ma rfl rfl rfl rfl ?_
  refine VO.ma rfl rfl rfl rfl ?_
  refine VO.nil ?_
  refine VC.ret ?_
  exact Exists.intro _ (And.intro (RetV.two Tryz.results37 (ResV.tmp rfl) (ResV.tmp rfl)) (⟨0, false, latP_no hz (by omega), rfl⟩))
 ·have h0 := h0b
  try simp only [qqT, qqF, qqN, qqM, qqL, qqE] at h0
  refine VC.skip ?_
  refine VC.sr ?_
  refine VO.ma rfl rfl rfl rfl ?_
  refine VO.ma rfl rfl rfl rfl ?_
  refine VO.nil ?_
  refine VC.seq ?_
  refine VC.block ?_
  refine VC.loopK [] trivial ({t : Int × Int // (0 ≤ t.1 ∧ t.1 < t.2 ∧ t.2 ≤ 345686400000) ∧ lateZ p o l each t.1 ≤ 0 ∧ ∀ s, t.2 ≤ s → s ≤ 345686399999 → 0 < lateZ p o l each s}) (fun (iZ : {t : Int × Int // (0 ≤ t.1 ∧ t.1 < t.2 ∧ t.2 ≤ 345686400000) ∧ lateZ p o l each t.1 ≤ 0 ∧ ∀ s, t.2 ≤ s → s ≤ 345686399999 → 0 < lateZ p o l each s}) => match iZ with | ⟨⟨lo, hi⟩, hlh, hlo, hhi⟩ => [(10, .v (.func (.func 140) #[] #[ptv gp, ptv go, ptv gl, ptv ge])), (11, avI lo), (12, avI hi)]) (fun (iZ : {t : Int × Int // (0 ≤ t.1 ∧ t.1 < t.2 ∧ t.2 ≤ 345686400000) ∧ lateZ p o l each t.1 ≤ 0 ∧ ∀ s, t.2 ≤ s → s ≤ 345686399999 → 0 < lateZ p o l each s}) => match iZ with | ⟨⟨lo, hi⟩, hlh, hlo, hhi⟩ => (bxL p o l each 26 28 22 3 gp go gl ge)) (fun (iZ : {t : Int × Int // (0 ≤ t.1 ∧ t.1 < t.2 ∧ t.2 ≤ 345686400000) ∧ lateZ p o l each t.1 ≤ 0 ∧ ∀ s, t.2 ≤ s → s ≤ 345686399999 → 0 < lateZ p o l each s}) => match iZ with | ⟨⟨lo, hi⟩, hlh, hlo, hhi⟩ => 0) (fun (iZ : {t : Int × Int // (0 ≤ t.1 ∧ t.1 < t.2 ∧ t.2 ≤ 345686400000) ∧ lateZ p o l each t.1 ≤ 0 ∧ ∀ s, t.2 ≤ s → s ≤ 345686399999 → 0 < lateZ p o l each s}) => match iZ with | ⟨⟨lo, hi⟩, hlh, hlo, hhi⟩ => (hi - lo).toNat) ⟨(0, 345686400000), by decide, by show lateZ p o l each 0 ≤ 0; omega, fun s h1 h2 => by simp only at h1; omega⟩ (Le.mkP hB ⟨rfl, rfl, rfl, trivial⟩ (List.Sublist.refl _) (List.Perm.refl _) (Nat.le_refl _)) ?_
  rintro ⟨⟨lo, hi⟩, hlh, hlo, hhi⟩
  show VC _ _ _ _ ⟨[(10, .v (.func (.func 140) #[] #[ptv gp, ptv go, ptv gl, ptv ge])), (11, avI lo), (12, avI hi)] ++ [], (bxL p o l each 26 28 22 3 gp go gl ge), 0⟩
  simp only at hlh hlo hhi
  refine VC.seq ?_
  refine VC.sr ?_
  refine VO.mv rfl rfl rfl rfl ?_
  refine VO.mv rfl rfl rfl rfl ?_
  refine VO.val rfl rfl (OpV.sub rfl rfl rfl (by unfold fits; omega)) ?_
  refine VO.val rfl rfl (OpV.gtr rfl rfl rfl) ?_
  refine VO.nil ?_
  refine VC.cond rfl (fun aH1b => ?_) (fun aH1b => ?_)
  ·have aH1 := aH1b
   try simp only [qqT, qqF, qqN, qqM, qqL, qqE] at aH1
   refine VC.skip ?_
   refine VC.block ?_
   refine VC.sr ?_
   refine VO.mv rfl rfl rfl rfl ?_
   refine VO.mv rfl rfl rfl rfl ?_
   refine VO.val rfl rfl (OpV.add rfl rfl rfl (by unfold fits; omega)) ?_
   refine VO.val rfl rfl (OpV.quo rfl rfl rfl (by omega) ((by obtain ⟨m, hm, _⟩ := half_in (a := lo) (b := hi) (by omega) (by omega); rw [hm]; unfold fits; omega))) ?_
   obtain ⟨m, hme, hm1, hm2, hm3⟩ := half_in (a := lo) (b := hi) (by omega) (by omega)
   refine VO.le _ (Le.recast (t := 24) (y := avI m) rfl (fun w Z u h => by rw [← hme]; exact h)) ?_
   refine VO.ma rfl rfl rfl rfl ?_
   refine VO.nil ?_
   refine VC.sr ?_
   refine VO.mv rfl rfl rfl rfl ?_
   refine VO.mv rfl rfl rfl rfl ?_
   refine VO.op rfl (OpE.callH rfl hB rfl Tryz.call140 rfl rfl (rf_LatestOf1 hp (hk.start_at (s' := m) (by omega) (by omega))) (List.Perm.refl _) (fun _ _ => trivial) ?_)
   rintro _ _ ⟨rfl, rfl⟩
   refine VO.nil ?_
   refine VC.cond rfl (fun aH2b => ?_) (fun aH2b => ?_)
   ·have aH2 := aH2b
    try simp only [qqT, qqF, qqN, qqM, qqL, qqE] at aH2
    refine VC.region ?_
    refine VO.mv rfl rfl rfl rfl ?_
    refine VO.ma rfl rfl rfl rfl ?_
    refine VO.nil ?_
    exact Exists.intro (⟨(lo, m), by show 0 ≤ lo ∧ lo < m ∧ m ≤ _; omega, hlo, fun s k1 k2 => late_up (m := m) (by omega) k1⟩) (And.intro (Le.mkP hB ⟨rfl, rfl, rfl, trivial⟩ (List.Sublist.refl _) (List.Perm.refl _) (Nat.le_refl _)) (by first | omega | (show _ < _; omega) | (simp only []; omega)))
   ·have aH2 := aH2b
    try simp only [qqT, qqF, qqN, qqM, qqL, qqE] at aH2
    refine VC.region ?_
    refine VO.mv rfl rfl rfl rfl ?_
    refine VO.ma rfl rfl rfl rfl ?_
    refine VO.nil ?_
    exact Exists.intro (⟨(m, hi), by show 0 ≤ m ∧ m < hi ∧ hi ≤ _; omega, by show lateZ p o l each m ≤ 0; omega, hhi⟩) (And.intro (Le.mkP hB ⟨rfl, rfl, rfl, trivial⟩ (List.Sublist.refl _) (List.Perm.refl _) (Nat.le_refl _)) (by first | omega | (show _ < _; omega) | (simp only []; omega)))
  ·have aH1 := aH1b
   try simp only [qqT, qqF, qqN, qqM, qqL, qqE] at aH1
   refine VC.exit ?_
   refine VC.sr ?_
   refine VO.mv rfl rfl rfl rfl ?_
   refine VO.ma rfl rfl rfl rfl ?_
   refine VO.ma rfl rfl rfl rfl ?_
   refine VO.nil ?_
   refine VC.ret ?_
   exact Exists.intro _ (And.intro (RetV.two Tryz.results37 (ResV.tmp rfl) (ResV.tmp rfl)) (⟨lo, true, latP_yes hz (by omega) ⟨by omega, hlo, fun s k1 k2 => hhi s (by omega) k2⟩, rfl⟩))
end Go.Proofs.YtmahammdnmmmoaaGreatDoor
namespace Go.Proofs.YtmahammdnmmmoaaGreatDoor
open Go.RowKit
set_option linter.unusedVariables false
set_option linter.unusedSimpArgs false
section
variable {P : Program} {B : Bs} {W : Nat → Prop} {s s' : St'} {o : Oper} {K : St' → Prop} {a : Act} {w w' : World} {Q : Exit → St' → Prop}
theorem OpE.appendZP {x y : Operand} {T Tn e bytes cap k i g n : Nat} {o' : Own'} {z : Value} {vs : List Value} {kn kq : IntKind} {kk : Int} (ho : o.op = .call { callee := .builtin .append, args := #[x, y], argTypes := #[T, Tn] }) (hB : B.Ok) (hd : okd B.nt o.dst = true)
  (hu : P.underlying T = some (.slice e)) (hun : P.underlying Tn = some (.int kn)) (hinfo : (P.info? e).map (fun i => (i.zero, i.size, i.bytes)) = some (some z, 1, bytes)) (hz : z.cells.size = 1) (hby : bytes ≤ 4096)
  (hx : evO s x = some (.v (.slice (some ⟨g, 0, none⟩) n cap))) (hi : s.hp[i]? = some (.box g o')) (hvs : o'.cs.take n = vs.map .v) (hvl : vs.length = n) (hy : evO s y = some (.v (.int kq kk))) (hkk : kk = k) (hk : 0 < k) (hcap : cap < n + k) (hlen : n + k ≤ 10000000000)
  (hK : ∀ u, K ((St'.mk s.sl (s.hp ++ [.row u (n + k) 1 (vs.map .v ++ List.replicate k .any) e]) s.k).put o.dst (.v u))) : OpE P B W s o K := by
 subst hkk
 obtain ⟨ii, hii, hz0, hz1, hz2⟩ := info_parts hinfo
 subst hz2
 intro a w hr next Qx hn
 obtain ⟨c0, h1, h2, h3, h4⟩ := hr.blocks _ (List.mem_of_getElem? hi)
 have hnl : n ≤ o'.cs.length := by
  have := congrArg List.length hvs
  rw [List.length_take, List.length_map] at this
  omega
 have hold : ∀ j, (hj : j < n) → c0[j]? = some (vs[j]'(by omega)) := fun j hj => by
  obtain ⟨v, k1, k2⟩ := h4 j (by omega)
  have e1 : o'.cs[j]'(by omega) = .v (vs[j]'(by omega)) := by
   have := congrArg (fun l => l[j]?) hvs
   simp only [List.getElem?_take_of_lt hj, List.getElem?_map, List.getElem?_eq_getElem (by omega : j < o'.cs.length), List.getElem?_eq_getElem (by omega : j < vs.length), Option.map_some] at this
   exact Option.some.inj this
  rw [e1] at k2
  rw [k1, k2.eq_v]
 have hb47 : (n + k) * ii.bytes ≤ 140737488355328 := by
  have : (n + k) * ii.bytes ≤ 10000000000 * 4096 := Nat.mul_le_mul hlen hby
  omega
 have hb48 : k * ii.bytes ≤ (n + k) * ii.bytes := Nat.mul_le_mul_right _ (by omega)
 have hrun := Lib.run_append_grow_zeros (P := P) w T Tn o.type e ii z kq kn hu hun hii hz0 (some ⟨g, 0, none⟩) n cap vs (by
  have hc := run_loadCells_list (P := P) w.drew ⟨g, 0, none⟩ vs (fun j v hj => by
   have hjl := (List.getElem?_eq_some_iff.1 hj).1
   have := hold j (by omega)
   have hv : vs[j]'hjl = v := (List.getElem?_eq_some_iff.1 hj).2
   have e0 : (⟨g, 0, none⟩ : Addr).add j = ⟨g, j, none⟩ := by unfold Addr.add; split <;> simp_all
   have hh : w.drew.heap[g]? = w.heap[g]? := rfl
   rw [e0]
   simp [World.cell?, hh, h1, this, hv])
  simpa [Builtin.firstCells, hz1, hvl] using hc) k hk (by omega) hcap (by omega) (by omega) (growslice_fits hcap hb47)
 have hge := grownCap_ge w (n + k) cap e
 have hcm := grownCap_le_maxLen w (n + k) cap e (by simp only [maxLen]; omega)
 have hr' : R B ⟨s.sl, s.hp ++ [.row (.slice (some ⟨w.heap.size, 0, none⟩) (n + k) (grownCap w (n + k) cap e)) (n + k) 1 (vs.map .v ++ List.replicate k .any) e], s.k⟩ a _ :=
  hr.newRow hB (((Chg.refl NoB w).drew).alloc (.cells (vs.toArray ++ Builtin.zeroCells z.cells k ++ Builtin.zeroCells z.cells (grownCap w (n + k) cap e - (n + k))) e)) (fun g hg => by simp [Ent.blk, Value.ownBlock] at hg; omega) ⟨by simp [hvl], .inr ⟨_, _, _, rfl, hge, hcm, heap_alloc_new _ _, by
   simp only [Array.size_append, size_zeroCells, hz, List.size_toArray]
   omega, fun j hj => by
   simp only [List.length_append, List.length_map, List.length_replicate] at hj
   have hlt : j < (vs.toArray ++ Builtin.zeroCells z.cells k ++ Builtin.zeroCells z.cells (grownCap w (n + k) cap e - (n + k))).size := by
    simp only [Array.size_append, size_zeroCells, hz, List.size_toArray]
    omega
   by_cases hjn : j < vs.length
   ·refine ⟨vs[j], ?_, by rw [List.getElem_append_left (by simpa using hjn), List.getElem_map]; exact .v _⟩
    rw [Array.getElem?_eq_getElem hlt]
    rw [Array.getElem_append_left (by simp; omega), Array.getElem_append_left (by simpa using hjn)]
    simp
   ·exact ⟨_, Array.getElem?_eq_getElem hlt, by rw [List.getElem_append_right (by simp; omega), List.getElem_replicate]; exact .any _⟩⟩⟩
 unfold Oper.wp
 simp only [execOp, ho, resolve, invoke, builtin, List.map_toArray, List.map_cons, List.map_nil, hr.evv hx, hr.evv hy, Sem.run_bind, Sem.run_pure, Result.andThen_ok, hrun]
 exact hn _ _ _ (hK _) (hr'.put _ hd _ _ (.v _)) (.ofN (((Chg.refl NoB w).drew).alloc _))
end
def insX (p : List Int) (k : Nat) (x : Int) : List Int := p.take k ++ x :: p.drop k
theorem insK_one {A rest : List AV} {F : Nat → AV} {X : AV} {k : Nat} (hA : A.length = k) (hr : 0 < rest.length) (hF : F 0 = X) : (A ++ rest).take (0 + k * 1) ++ tab (1 * 1) F ++ (A ++ rest).drop (0 + k * 1 + 1 * 1) = A ++ X :: rest.drop 1 := by
 have e1 : (A ++ rest).take (0 + k * 1) = A := by rw [show 0 + k * 1 = A.length by omega, List.take_left']; rfl
 have e2 : (A ++ rest).drop (0 + k * 1 + 1 * 1) = rest.drop 1 := by rw [show 0 + k * 1 + 1 * 1 = A.length + 1 by omega, List.drop_append]; simp
 rw [e1, e2]
 simp [tab, hF]
theorem insK_many {A rest : List AV} {F : Nat → AV} {y : AV} {k : Nat} {p : List Int} (hA : A.length = k) (hk : k ≤ p.length) (hr : rest.length ≤ p.length - k) (hF : ∀ j, j < p.length - k → F j = avI (p.getD (k + j) 0)) :
  (A ++ y :: rest).take (0 + (k + 1) * 1) ++ tab ((p.length - k) * 1) F ++ (A ++ y :: rest).drop (0 + (k + 1) * 1 + (p.length - k) * 1) = A ++ y :: intsL (p.drop k) := by
 have e1 : (A ++ y :: rest).take (0 + (k + 1) * 1) = A ++ [y] := by
  rw [show A ++ y :: rest = (A ++ [y]) ++ rest by simp, List.take_left']
  simp; omega
 have e2 : (A ++ y :: rest).drop (0 + (k + 1) * 1 + (p.length - k) * 1) = [] := List.drop_eq_nil_of_le (by simp; omega)
 have e3 : tab ((p.length - k) * 1) F = intsL (p.drop k) := by
  apply List.ext_getElem (by rw [tab_len, intsL_len, Nat.mul_one, List.length_drop])
  intro i h1 h2
  rw [tab_get]
  rw [intsL_len, List.length_drop] at h2
  rw [hF i h2]
  simp [intsL, show k + i < p.length by omega]
 rw [e1, e2, e3, List.append_nil, List.append_assoc]
 rfl
theorem insX_eq (p : List Int) (k : Nat) (x : Int) : intsL (p.take k) ++ avI x :: intsL (p.drop k) = intsL (insX p k x) := by simp [intsL, insX]
def vsK (p : List Int) (k : Nat) : List Value := (p.take k).map fun n => Value.int .i64 n
theorem vsK_eq (p : List Int) (k : Nat) : (vsK p k).map AV.v = intsL (p.take k) := by unfold vsK intsL; rw [List.map_map]; rfl
theorem insK_pad {p : List Int} {k : Nat} (h : k < p.length) : intsL p ++ List.replicate 1 AV.any = intsL (p.take k) ++ avI (p.getD k 0) :: (intsL (p.drop (k + 1)) ++ [AV.any]) := by
 have e : p = p.take k ++ p.getD k 0 :: p.drop (k + 1) := by
  rw [show p.getD k 0 = p[k] by simp [h], ← List.drop_eq_getElem_cons h, List.take_append_drop]
 conv => lhs; rw [e]
 simp [intsL]
set_option maxRecDepth 100000 in
set_option maxHeartbeats 4000000 in
theorem slices_InsertI {p : List Int} {x : Int} {k : Nat} {u : Value} (hl : p.length ≤ 1000000000) (hk : k ≤ p.length) :
  SpecH Tryz.prog 137 [.v u, avI (k : Int), avInts [x]] [.row u p.length 1 (intsL p) 3] (fun y hp' => ∃ u', y = .v u' ∧ hp' = [.row u' (p.length + 1) 1 (intsL (insX p k x)) 3]) := by
 have hx1 : [x].length = 1 := rfl
 refine SpecH.of_VC Tryz.func137 rfl Tryz.ntmps137 (Nle rfl) fun w A hB => ?_
 have hnew : True := trivial
 refine VC.sr ?_
 refine VO.ma rfl rfl rfl rfl ?_
 refine VO.nil ?_
 refine VC.sr ?_
 refine VO.mv rfl rfl rfl rfl ?_
 refine VO.mv rfl rfl rfl rfl ?_
 refine VO.val rfl rfl (OpV.slice_rowA (i := 0) (l := k) rfl Tryz.underlying22 Tryz.sizeOf3 rfl rfl ⟨_, _, rfl, rfl⟩ rfl (by omega) (by omega)) ?_
 refine VO.nil ?_
 refine VC.sr ?_
 refine VO.mv rfl rfl rfl rfl ?_
 refine VO.val rfl rfl (OpV.len_im rfl Tryz.underlying22 rfl) ?_
 refine VO.ma rfl rfl rfl rfl ?_
 refine VO.nil ?_
 refine VC.seq ?_
 refine VC.sr ?_
 refine VO.mv rfl rfl rfl rfl ?_
 refine VO.val rfl rfl (OpV.eql rfl rfl rfl) ?_
 refine VO.nil ?_
 refine VC.cond rfl (fun aH1b => ?_) (fun aH1b => ?_)
 ·have aH1 := aH1b
  try simp only [qqT, qqF, qqN, qqM, qqL, qqE] at aH1
  exact VC.absurd (by omega)
 ·have aH1 := aH1b
  try simp only [qqT, qqF, qqN, qqM, qqL, qqE] at aH1
  refine VC.skip ?_
  refine VC.sr ?_
  refine VO.mv rfl rfl rfl rfl ?_
  refine VO.val rfl rfl (OpV.len_row (i := 0) rfl Tryz.underlying22 rfl rfl) ?_
  refine VO.ma rfl rfl rfl rfl ?_
  refine VO.nil ?_
  refine VC.seq ?_
  refine VC.sr ?_
  refine VO.mv rfl rfl rfl rfl ?_
  refine VO.mv rfl rfl rfl rfl ?_
  refine VO.val rfl rfl (OpV.eql rfl rfl rfl) ?_
  refine VO.nil ?_
  refine VC.cond rfl (fun h1b => ?_) (fun h1b => ?_)
  ·have h1 := h1b
   try simp only [qqT, qqF, qqN, qqM, qqL, qqE] at h1
   obtain rfl : k = p.length := by omega
   refine VC.sr ?_
   refine VO.mv rfl rfl rfl rfl ?_
   refine VO.mv rfl rfl rfl rfl ?_
   refine VO.op rfl (OpE.appendP (i := 0) rfl hB rfl Tryz.underlying22 (infoOf Tryz.t3 1 (by kernel_rfl) rfl rfl) rfl (by decide) (by decide) rfl rfl (.im rfl) (fun _ _ => rfl) (by omega) ((show intsL p ++ tab (1 * 1) (fun j => avI ([x].getD j 0)) = intsL (insX p p.length x) from by rw [← insX_eq, List.take_length, List.drop_length]; rfl)) (fun _ _ => trivial) ?_)
   intro u25
   refine VO.ma rfl rfl rfl rfl ?_
   refine VO.nil ?_
   refine VC.ret ?_
   exact Exists.intro _ (And.intro (RetV.one Tryz.results137 (ResV.tmp rfl)) (⟨_, rfl, rfl⟩))
  ·have h1 := h1b
   try simp only [qqT, qqF, qqN, qqM, qqL, qqE] at h1
   refine VC.asBox (i := 0) rfl (by omega) (fun g cap hu hcap hmx => ?_)
   subst hu
   refine VC.skip ?_
   refine VC.seq ?_
   refine VC.sr ?_
   refine VO.mv rfl rfl rfl rfl ?_
   refine VO.mv rfl rfl rfl rfl ?_
   refine VO.val rfl rfl (OpV.add rfl rfl rfl (by unfold fits; omega)) ?_
   refine VO.mv rfl rfl rfl rfl ?_
   refine VO.val rfl rfl (OpV.cap_v rfl Tryz.underlying22 rfl) ?_
   refine VO.val rfl rfl (OpV.gtr rfl rfl rfl) ?_
   refine VO.nil ?_
   refine VC.cond rfl (fun h2b => ?_) (fun h2b => ?_)
   ·have h2 := h2b
    try simp only [qqT, qqF, qqN, qqM, qqL, qqE] at h2
    refine VC.sr ?_
    refine VO.mv rfl rfl rfl rfl ?_
    refine VO.mv rfl rfl rfl rfl ?_
    refine VO.val rfl rfl (OpV.slice_own (h := k) rfl Tryz.underlying22 Tryz.sizeOf3 rfl rfl ⟨_, _, rfl, rfl⟩ (by omega) (by omega) (by omega)) ?_
    refine VO.mv rfl rfl rfl rfl ?_
    refine VO.mv rfl rfl rfl rfl ?_
    refine VO.val rfl rfl (OpV.add rfl rfl rfl (by unfold fits; omega)) ?_
    refine VO.mv rfl rfl rfl rfl ?_
    refine VO.val rfl rfl (OpV.sub rfl rfl rfl (by unfold fits; omega)) ?_
    refine VO.op rfl (OpE.appendZP (i := 0) (k := p.length + 1 - k) (vs := vsK p k) rfl hB rfl Tryz.underlying22 Tryz.underlying3 (infoOf Tryz.t3 1 (by kernel_rfl) rfl rfl) rfl (by decide) rfl rfl ((by rw [vsK_eq]; simp [intsL, List.map_take])) ((by simp [vsK]; omega)) rfl (by omega) (by omega) (by omega) (by omega) ?_)
    intro u40
    have hvl : ((vsK p k).map AV.v).length = k := by rw [vsK_eq, intsL_len, List.length_take]; omega
    refine VO.asBox (i := 1) rfl (by omega) (fun g3 cap3 hu3 hcap3 hmx3 => ?_)
    subst hu3
    refine VO.ma rfl rfl rfl rfl ?_
    refine VO.nil ?_
    refine VC.sr ?_
    refine VO.mv rfl rfl rfl rfl ?_
    refine VO.mv rfl rfl rfl rfl ?_
    refine VO.val rfl rfl (OpV.slice_own (l := k) rfl Tryz.underlying22 Tryz.sizeOf3 rfl ⟨_, _, rfl, rfl⟩ rfl (by omega) (by omega) (by omega)) ?_
    refine VO.mv rfl rfl rfl rfl ?_
    refine VO.op rfl (OpE.copy (i := 1) rfl hB rfl Tryz.underlying22 Tryz.sizeOf3 rfl rfl (SrcP.im rfl) (c := 1) (by omega) (fun _ _ => rfl) (by simp [vsK]; omega) (insK_one (X := avI x) hvl (by simp; omega) rfl) trivial ?_)
    refine VO.nil ?_
    refine VC.seq ?_
    refine VC.draw (fun j b => j = 8 ∧ b = g3) hB (by kernel_rfl) ?_
    refine VA.take (i := 0) rfl (by kernel_rfl) (by kernel_rfl) (by kernel_rfl) rfl rfl (OpV.move (.inl rfl) rfl) ?_
    refine VA.take (i := 1) rfl (by kernel_rfl) (by kernel_rfl) (by kernel_rfl) rfl rfl (OpV.move (.inl rfl) rfl) ?_
    refine VA.take (i := 2) rfl (by kernel_rfl) (by kernel_rfl) (by kernel_rfl) rfl rfl (OpV.move (.inl rfl) rfl) ?_
    refine VA.take (i := 3) rfl (by kernel_rfl) (by kernel_rfl) (by kernel_rfl) rfl rfl (OpV.add rfl rfl rfl (by unfold fits; omega)) ?_
    refine VA.take (i := 4) rfl (by kernel_rfl) (by kernel_rfl) (by kernel_rfl) rfl rfl (OpV.slice_own (l := k + 1) rfl Tryz.underlying22 Tryz.sizeOf3 rfl ⟨_, _, rfl, by omega⟩ rfl (by omega) (by omega) (by omega)) ?_
    refine VA.take (i := 5) rfl (by kernel_rfl) (by kernel_rfl) (by kernel_rfl) rfl rfl (OpV.move (.inl rfl) rfl) ?_
    refine VA.take (i := 6) rfl (by kernel_rfl) (by kernel_rfl) (by kernel_rfl) rfl rfl (OpV.move (.inl rfl) rfl) ?_
    refine VA.take (i := 7) rfl (by kernel_rfl) (by kernel_rfl) (by kernel_rfl) rfl rfl (OpV.slice_own (l := k) rfl Tryz.underlying22 Tryz.sizeOf3 rfl ⟨_, _, rfl, rfl⟩ rfl (by omega) (by omega) (by omega)) ?_
    refine VA.all (rs := [8]) (by kernel_rfl) (by decide) ?_
    refine ⟨⟨_, rfl, .inl rfl, ?_⟩, trivial⟩
    refine OpE.copy (i := 1) rfl hB rfl Tryz.underlying22 Tryz.sizeOf3 rfl rfl (SrcP.box (i := 0) rfl rfl (by rw [intsL_len]; omega)) (c := p.length - k) (cs' := intsL (insX p k x)) (by omega) (fun j hj => by dsimp only; rw [List.getD_eq_getElem?_getD, show 0 + k * 1 + j = k + j by omega, intsL_get (by omega)]; rfl) (by first | (simp [vsK]; done) | (simp [vsK]; omega)) ((insK_many hvl hk (by simp; omega) (fun j hj => by dsimp only; rw [List.getD_eq_getElem?_getD, show 0 + k * 1 + j = k + j by omega, intsL_get (by omega)]; rfl)).trans (by rw [vsK_eq]; exact insX_eq p k x)) (by first | exact ⟨rfl, rfl⟩ | exact .inl ⟨rfl, rfl⟩ | exact .inr ⟨rfl, rfl⟩ | exact ⟨rfl, trivial⟩ | exact .inl ⟨rfl, trivial⟩ | exact .inr ⟨rfl, trivial⟩ | exact ⟨by decide, rfl⟩) ?_
    refine VA.done (by kernel_rfl) ?_
    refine VC.sr ?_
    refine VO.mv rfl rfl rfl rfl ?_
    refine VO.ma rfl rfl rfl rfl ?_
    refine VO.nil ?_
    refine VC.le _ ((Le.pickH [1] rfl rfl).trans (Le.boxRow (i := 0) (n := k + (p.length + 1 - k)) (sz := 1) (cap := cap3) rfl (by first | (simp [intsL_len, insX]; done) | (simp [intsL_len, insX]; omega)) (by omega) hmx3)) ?_
    refine VC.ret ?_
    exact Exists.intro _ (And.intro (RetV.one Tryz.results137 (ResV.tmp rfl)) (⟨_, rfl, congrArg (fun n => [Ent.row _ n 1 _ _]) (by omega : k + (p.length + 1 - k) = p.length + 1)⟩))
   ·have h2 := h2b
    try simp only [qqT, qqF, qqN, qqM, qqL, qqE] at h2
    refine VC.le _ (Le.padBox (i := 0) 1 rfl (by rw [intsL_len]; omega)) ?_
    refine VC.skip ?_
    refine VC.sr ?_
    refine VO.mv rfl rfl rfl rfl ?_
    refine VO.mv rfl rfl rfl rfl ?_
    refine VO.mv rfl rfl rfl rfl ?_
    refine VO.val rfl rfl (OpV.add rfl rfl rfl (by unfold fits; omega)) ?_
    refine VO.val rfl rfl (OpV.slice_own (h := p.length + 1) rfl Tryz.underlying22 Tryz.sizeOf3 rfl rfl ⟨_, _, rfl, by omega⟩ (by omega) (by omega) (by omega)) ?_
    refine VO.ma rfl rfl rfl rfl ?_
    refine VO.nil ?_
    refine VC.seq ?_
    refine VC.sr ?_
    refine VO.mv rfl rfl rfl rfl ?_
    refine VO.mv rfl rfl rfl rfl ?_
    refine VO.mv rfl rfl rfl rfl ?_
    refine VO.mv rfl rfl rfl rfl ?_
    refine VO.val rfl rfl (OpV.add rfl rfl rfl (by unfold fits; omega)) ?_
    refine VO.val rfl rfl (OpV.slice_own (l := k + 1) rfl Tryz.underlying22 Tryz.sizeOf3 rfl ⟨_, _, rfl, by omega⟩ rfl (by omega) (by omega) (by omega)) ?_
    refine VO.op rfl (OpE.overlaps (i := 0) rfl hB rfl (fun us w => run_callFunc_extern Tryz.func252 (by kernel_rfl) (by kernel_rfl) (by kernel_rfl) (e := Extern.SlicesOverlaps.overlaps #[22, 22] #[4]) (by kernel_rfl) us w) Tryz.underlying22 Tryz.sizeOf3 rfl (Nat.succ_pos _) rfl rfl (by show 0 < cap * 1; omega) ?_)
    refine VO.val rfl rfl (OpV.not rfl rfl) ?_
    refine VO.nil ?_
    refine VC.condT rfl rfl ?_
    refine VC.seq ?_
    refine VC.draw (fun j b => j = 8 ∧ b = g) hB (by kernel_rfl) ?_
    refine VA.take (i := 0) rfl (by kernel_rfl) (by kernel_rfl) (by kernel_rfl) rfl rfl (OpV.move (.inl rfl) rfl) ?_
    refine VA.take (i := 1) rfl (by kernel_rfl) (by kernel_rfl) (by kernel_rfl) rfl rfl (OpV.move (.inl rfl) rfl) ?_
    refine VA.take (i := 2) rfl (by kernel_rfl) (by kernel_rfl) (by kernel_rfl) rfl rfl (OpV.move (.inl rfl) rfl) ?_
    refine VA.take (i := 3) rfl (by kernel_rfl) (by kernel_rfl) (by kernel_rfl) rfl rfl (OpV.add rfl rfl rfl (by unfold fits; omega)) ?_
    refine VA.take (i := 4) rfl (by kernel_rfl) (by kernel_rfl) (by kernel_rfl) rfl rfl (OpV.slice_own (l := k + 1) rfl Tryz.underlying22 Tryz.sizeOf3 rfl ⟨_, _, rfl, by omega⟩ rfl (by omega) (by omega) (by omega)) ?_
    refine VA.take (i := 5) rfl (by kernel_rfl) (by kernel_rfl) (by kernel_rfl) rfl rfl (OpV.move (.inl rfl) rfl) ?_
    refine VA.take (i := 6) rfl (by kernel_rfl) (by kernel_rfl) (by kernel_rfl) rfl rfl (OpV.move (.inl rfl) rfl) ?_
    refine VA.take (i := 7) rfl (by kernel_rfl) (by kernel_rfl) (by kernel_rfl) rfl rfl (OpV.slice_own (l := k) rfl Tryz.underlying22 Tryz.sizeOf3 rfl ⟨_, _, rfl, rfl⟩ rfl (by omega) (by omega) (by omega)) ?_
    refine VA.all (rs := [8]) (by kernel_rfl) (by decide) ?_
    refine ⟨⟨_, rfl, .inl rfl, ?_⟩, trivial⟩
    refine OpE.copy (i := 0) rfl hB rfl Tryz.underlying22 Tryz.sizeOf3 rfl rfl (SrcP.box (i := 0) rfl rfl (by simp [intsL_len]; omega)) (c := p.length - k) (cs' := intsL (p.take k) ++ avI (p.getD k 0) :: intsL (p.drop k)) (by omega) (fun j hj => by dsimp only; rw [List.getD_eq_getElem?_getD, show 0 + k * 1 + j = k + j by omega, List.getElem?_append_left (by rw [intsL_len]; omega), intsL_get (by omega)]; rfl) (by first | (simp [intsL_len]; done) | (simp [intsL_len]; omega)) (by rw [insK_pad (by omega : k < p.length)]; exact insK_many (by rw [intsL_len, List.length_take]; omega) hk (by simp [intsL_len]; omega) (fun j hj => by dsimp only; rw [← insK_pad (by omega : k < p.length), List.getD_eq_getElem?_getD, show 0 + k * 1 + j = k + j by omega, List.getElem?_append_left (by rw [intsL_len]; omega), intsL_get (by omega)]; rfl)) (by first | exact ⟨rfl, rfl⟩ | exact .inl ⟨rfl, rfl⟩ | exact .inr ⟨rfl, rfl⟩ | exact ⟨rfl, trivial⟩ | exact .inl ⟨rfl, trivial⟩ | exact .inr ⟨rfl, trivial⟩ | exact ⟨by decide, rfl⟩) ?_
    refine VA.done (by kernel_rfl) ?_
    refine VC.sr ?_
    refine VO.mv rfl rfl rfl rfl ?_
    refine VO.mv rfl rfl rfl rfl ?_
    refine VO.val rfl rfl (OpV.slice_own (l := k) rfl Tryz.underlying22 Tryz.sizeOf3 rfl ⟨_, _, rfl, rfl⟩ rfl (by omega) (by omega) (by omega)) ?_
    refine VO.mv rfl rfl rfl rfl ?_
    refine VO.op rfl (OpE.copy (i := 0) rfl hB rfl Tryz.underlying22 Tryz.sizeOf3 rfl rfl (SrcP.im rfl) (c := 1) (cs' := intsL (insX p k x)) (by omega) (fun _ _ => rfl) (by first | (simp [intsL_len]; done) | (simp [intsL_len]; omega)) ((insK_one (X := avI x) (by rw [intsL_len, List.length_take]; omega) (by simp) rfl).trans (insX_eq p k x)) trivial ?_)
    refine VO.nil ?_
    refine VC.sr ?_
    refine VO.mv rfl rfl rfl rfl ?_
    refine VO.ma rfl rfl rfl rfl ?_
    refine VO.nil ?_
    refine VC.le _ (Le.boxRow (i := 0) (n := p.length + 1) (sz := 1) (cap := cap) rfl (by first | (simp [intsL_len, insX]; done) | (simp [intsL_len, insX]; omega)) (by omega) hmx) ?_
    refine VC.ret ?_
    exact Exists.intro _ (And.intro (RetV.one Tryz.results137 (ResV.tmp rfl)) (⟨_, rfl, rfl⟩))
end Go.Proofs.YtmahammdnmmmoaaGreatDoor
namespace Go.Proofs.YtmahammdnmmmoaaGreatDoor
open Go.RowKit
set_option linter.unusedVariables false
set_option linter.unusedSimpArgs false
theorem flat_or (xs : List OrdrS) : FlatA (rowL xs) := flat_rowL (fun x j hj => by
 match j, hj with
 | 0, _ => exact ⟨_, rfl⟩
 | 1, _ => exact ⟨_, rfl⟩
 | 2, _ => exact ⟨_, rfl⟩
 | 3, _ => exact ⟨_, rfl⟩
 | 4, _ => exact ⟨_, rfl⟩) xs
theorem or_one (xs : List OrdrS) (x : Nat) (h : x < xs.length * 5) : ((fun q => Sxc.cell (xs.getD q default)) (x / Sxc.k OrdrS) (x % Sxc.k OrdrS)).one = true := by
 have : x % Sxc.k OrdrS < 5 := Nat.mod_lt _ (by decide)
 match x % Sxc.k OrdrS, this with
 | 0, _ => rfl
 | 1, _ => rfl
 | 2, _ => rfl
 | 3, _ => rfl
 | 4, _ => rfl
set_option maxRecDepth 100000 in
theorem slices_CloneO_R {xs : List OrdrS} (hl : xs.length ≤ 1000000000) :
  SpecR Tryz.prog 135 [avL xs] xs.length 5 (rowL xs) 35 := by
 refine SpecR.of_VC Tryz.func135 rfl Tryz.ntmps135 (Nle rfl) (flat_or xs) fun w A hB => ?_
 have hnew : True := trivial
 refine VC.sr ?_
 refine VO.ma rfl rfl rfl rfl ?_
 refine VO.nil ?_
 refine VC.seq ?_
 refine VC.sr ?_
 refine VO.mv rfl rfl rfl rfl ?_
 refine VO.op rfl (OpE.eqNil rfl rfl Tryz.underlying28 rfl ?_)
 intro b4 hb4
 refine VO.nil ?_
 refine VC.cond rfl (fun h0b => ?_) (fun h0b => ?_)
 ·have h0 := h0b
  try simp only [qqT, qqF, qqN, qqM, qqL, qqE] at h0
  refine VC.sr ?_
  refine VO.ma rfl rfl rfl rfl ?_
  refine VO.nil ?_
  obtain rfl : xs = [] := List.eq_nil_of_length_eq_zero (hb4 h0)
  refine VC.le _ (Le.nilRow 5 35) ?_
  refine VC.ret ?_
  exact Exists.intro _ (And.intro (RetV.one Tryz.results135 (ResV.tmp rfl)) (⟨_, rfl, List.Mem.head _⟩))
 ·have h0 := h0b
  try simp only [qqT, qqF, qqN, qqM, qqL, qqE] at h0
  refine VC.skip ?_
  refine VC.sr ?_
  refine VO.op rfl (OpE.buildSlice0 rfl hB rfl Tryz.underlying28 Tryz.sizeOf35 ?_)
  intro g5
  refine VO.mv rfl rfl rfl rfl ?_
  refine VO.op rfl (OpE.appendP (i := 0) rfl hB rfl Tryz.underlying28 (infoOf Tryz.t35 5 (by kernel_rfl) rfl rfl) rfl (by decide) (by decide) rfl rfl (.im rfl) (or_one xs) (by omega) (tab_L xs) (fun _ _ => trivial) ?_)
  intro u7
  refine VO.ma rfl rfl rfl rfl ?_
  refine VO.nil ?_
  rw [Nat.zero_add]
  refine VC.ret ?_
  exact Exists.intro _ (And.intro (RetV.one Tryz.results135 (ResV.tmp rfl)) (⟨_, rfl, List.Mem.head _⟩))
set_option maxRecDepth 100000 in
theorem slices_IndexFunc_or {xs : List OrdrS} {F : FuncId} {cs : List AV} {p : OrdrS → Bool} (hl : xs.length ≤ 1000000000) (hcall : ∀ us w, (callFunc F us).run Tryz.prog w = .ok (.enter F us) w) (hF : ∀ x, Spec Tryz.prog F ([avT x] ++ cs) (fun y => y = avB (p x))) :
  SpecN Tryz.prog 111 [avL xs, .fn F cs] (fun y => y = avI (fidx p xs)) := by
 refine SpecN.of_VCN Tryz.func111 rfl Tryz.ntmps111 (Nle rfl) fun w A hB => ?_
 have hnew : True := trivial
 refine VC.sr ?_
 refine VO.ma rfl rfl rfl rfl ?_
 refine VO.nil ?_
 refine VC.seq ?_
 refine VC.sr ?_
 refine VO.mv rfl rfl rfl rfl ?_
 refine VO.val rfl rfl (OpV.len_im rfl Tryz.underlying28 rfl) ?_
 refine VO.mv rfl rfl rfl rfl ?_
 refine VO.nil ?_
 refine VC.block ?_
 refine VC.loopK [(0, _), (1, _), (7, _)] ⟨rfl, rfl, rfl, trivial⟩ ({q : Nat // q ≤ xs.length ∧ ∀ j, j < q → p (xs.getD j default) = false}) (fun (iZ : {q : Nat // q ≤ xs.length ∧ ∀ j, j < q → p (xs.getD j default) = false}) => match iZ with | ⟨q, hq, hn⟩ => [(8, avI (q : Int))]) (fun (iZ : {q : Nat // q ≤ xs.length ∧ ∀ j, j < q → p (xs.getD j default) = false}) => match iZ with | ⟨q, hq, hn⟩ => []) (fun (iZ : {q : Nat // q ≤ xs.length ∧ ∀ j, j < q → p (xs.getD j default) = false}) => match iZ with | ⟨q, hq, hn⟩ => 0) (fun (iZ : {q : Nat // q ≤ xs.length ∧ ∀ j, j < q → p (xs.getD j default) = false}) => match iZ with | ⟨q, hq, hn⟩ => xs.length - q) ⟨0, Nat.zero_le _, fun j hj => absurd hj (Nat.not_lt_zero j)⟩ (Le.mk hB [] ⟨rfl, rfl, rfl, rfl, trivial⟩ rfl rfl (Nat.le_refl _)) ?_
 rintro ⟨q, hq, hn⟩
 show VC _ _ _ _ ⟨[(8, avI (q : Int))] ++ [(0, _), (1, _), (7, _)], [], 0⟩
 refine VC.sr ?_
 refine VO.val rfl rfl (OpV.lss rfl rfl rfl) ?_
 refine VO.nil ?_
 refine VC.seq ?_
 refine VC.cond rfl (fun aH1b => ?_) (fun aH1b => ?_)
 ·have aH1 := aH1b
  try simp only [qqT, qqF, qqN, qqM, qqL, qqE] at aH1
  refine VC.skip ?_
  refine VC.seq ?_
  refine VC.block ?_
  refine VC.sr ?_
  refine VO.mv rfl rfl rfl rfl ?_
  refine VO.ma rfl rfl rfl rfl ?_
  refine VO.nil ?_
  refine VC.sr ?_
  refine VO.mv rfl rfl rfl rfl ?_
  refine VO.mv rfl rfl rfl rfl ?_
  refine VO.mv rfl rfl rfl rfl ?_
  refine VO.val rfl rfl (OpV.indexAddr_E rfl Tryz.underlying28 Tryz.sizeOf35 rfl rfl rfl (by omega)) ?_
  refine VO.val rfl rfl (OpV.loadK_at rfl hB OutW.no Tryz.isAgg35 Tryz.sizeOf35 rfl rfl) ?_
  refine VO.op rfl (OpE.callF rfl hB rfl hcall rfl rfl (hF _) ?_)
  rintro _ rfl
  refine VO.nil ?_
  refine VC.cond rfl (fun aH2b => ?_) (fun aH2b => ?_)
  ·have aH2 := aH2b
   try simp only [qqT, qqF, qqN, qqM, qqL, qqE] at aH2
   refine VC.sr ?_
   refine VO.mv rfl rfl rfl rfl ?_
   refine VO.ma rfl rfl rfl rfl ?_
   refine VO.nil ?_
   refine VC.ret ?_
   exact Exists.intro _ (And.intro (RetN.one Tryz.results111 (ResN.v rfl)) (by first | (rw [fidx_found (d := default) (q := q) (by omega) hn (by assumption)]) | (rw [fidx_none (d := default) (fun j hj => hn j (by omega))])))
  ·have aH2 := aH2b
   try simp only [qqT, qqF, qqN, qqM, qqL, qqE] at aH2
   refine VC.skip ?_
   refine VC.region ?_
   refine VO.val rfl rfl (OpV.add rfl rfl rfl (by unfold fits; omega)) ?_
   refine VO.mv rfl rfl rfl rfl ?_
   refine VO.nil ?_
   exact Exists.intro (⟨q + 1, by omega, lt_succ_cases hn ((by assumption))⟩) (And.intro (Le.mk hB [] ⟨rfl, rfl, rfl, rfl, trivial⟩ rfl rfl (Nat.le_refl _)) (by first | omega | (show _ < _; omega) | (simp only []; omega)))
 ·have aH1 := aH1b
  try simp only [qqT, qqF, qqN, qqM, qqL, qqE] at aH1
  refine VC.exit ?_
  refine VC.sr ?_
  refine VO.ma rfl rfl rfl rfl ?_
  refine VO.nil ?_
  refine VC.ret ?_
  exact Exists.intro _ (And.intro (RetN.one Tryz.results111 (ResN.v rfl)) (by first | (rw [fidx_found (d := default) (q := q) (by omega) hn (by assumption)]) | (rw [fidx_none (d := default) (fun j hj => hn j (by omega))])))
set_option maxRecDepth 100000 in
theorem slices_ContainsFunc_or {xs : List OrdrS} {F : FuncId} {cs : List AV} {p : OrdrS → Bool} (hl : xs.length ≤ 1000000000) (hcall : ∀ us w, (callFunc F us).run Tryz.prog w = .ok (.enter F us) w) (hF : ∀ x, Spec Tryz.prog F ([avT x] ++ cs) (fun y => y = avB (p x))) :
  SpecN Tryz.prog 132 [avL xs, .fn F cs] (fun y => y = avB (xs.any p)) := by
 refine SpecN.of_VCN Tryz.func132 rfl Tryz.ntmps132 (Nle rfl) fun w A hB => ?_
 have hnew : True := trivial
 refine VC.sr ?_
 refine VO.ma rfl rfl rfl rfl ?_
 refine VO.nil ?_
 refine VC.sr ?_
 refine VO.mv rfl rfl rfl rfl ?_
 refine VO.mv rfl rfl rfl rfl ?_
 refine VO.op rfl (OpE.call rfl hB rfl Tryz.call111 rfl (SpecN.spec (slices_IndexFunc_or hl hcall hF)) ?_)
 rintro _ rfl
 refine VO.val rfl rfl (OpV.geq rfl rfl rfl) ?_
 refine VO.ma rfl rfl rfl rfl ?_
 refine VO.nil ?_
 refine VC.ret ?_
 exact Exists.intro _ (And.intro (RetN.one Tryz.results132 (ResN.v rfl)) (by rw [← fidx_any]))
set_option maxRecDepth 100000 in
theorem plan_Promise1 {x y0 : OrdrS}  :
  SpecN Tryz.prog 133 [avT y0, .at_ 5 (Sxc.cell x)] (fun y => y = avB (sEq y0.key x.key)) := by
 refine SpecN.of_VCN Tryz.func133 rfl Tryz.ntmps133 (Nle rfl) fun w A hB => ?_
 have hnew : True := trivial
 refine VC.sr ?_
 refine VO.op rfl (OpE.box rfl hB rfl rfl rfl ?_)
 intro g2
 refine VO.ma rfl rfl rfl rfl ?_
 refine VO.nil ?_
 refine VC.sr ?_
 refine VO.val rfl rfl (OpV.fieldAddrO 0 rfl Tryz.underlying35 rfl rfl Tryz.sizeOf9 rfl) ?_
 refine VO.val rfl rfl (OpV.load_own (i := 0) rfl hB Tryz.isAgg9 rfl rfl rfl (fun h => h)) ?_
 refine VO.val rfl rfl (OpV.fieldAddr_atO 0 rfl Tryz.underlying35 rfl rfl Tryz.sizeOf9 rfl rfl) ?_
 refine VO.val rfl rfl (OpV.load_at rfl hB OutW.no Tryz.isAgg9 rfl rfl) ?_
 refine VO.val rfl rfl (OpV.seql rfl rfl rfl) ?_
 refine VO.ma rfl rfl rfl rfl ?_
 refine VO.nil ?_
 refine VC.ret ?_
 exact Exists.intro _ (And.intro (RetN.one Tryz.results133 (ResN.v rfl)) (rfl))
def stpE (n : Nat) (a : Int) (i : Int) (w : WinS) : Int := if i = (n : Int) then w.to else a
abbrev bxE (o : List OrdrS) (a : Int) (Tq Ti : TypeId) (g7 g25 : Nat) : List Ent := [.box g7 ⟨[avL o], Tq, 1⟩, .box g25 ⟨[avI a], Ti, 1⟩]
set_option maxRecDepth 100000 in
theorem plan_Promise2 {o : List OrdrS} {i a : Int} {x : WinS} {g7 g25 : Nat} {Tq Ti : TypeId} (hl : o.length ≤ 1000000) :
  SpecH Tryz.prog 138 [avI i, .agg [avI x.fr, avI x.to], pt g7, pt g25] (bxE o a Tq Ti g7 g25) (fun y hp' => hp' = bxE o (stpE o.length a i x) Tq Ti g7 g25) := by
 refine SpecH.of_VC Tryz.func138 rfl Tryz.ntmps138 (Nle rfl) fun w A hB => ?_
 have hnew : True := trivial
 refine VC.sr ?_
 refine VO.op rfl (OpE.box rfl hB rfl rfl rfl ?_)
 intro g5
 refine VO.nil ?_
 refine VC.sr ?_
 refine VO.mv rfl rfl rfl rfl ?_
 refine VO.val rfl rfl (OpV.load_own (i := 0) rfl hB Tryz.isAgg28 rfl rfl rfl (fun h => h)) ?_
 refine VO.val rfl rfl (OpV.len_im rfl Tryz.underlying28 rfl) ?_
 refine VO.val rfl rfl (OpV.eql rfl rfl rfl) ?_
 refine VO.nil ?_
 refine VC.cond rfl (fun h0b => ?_) (fun h0b => ?_)
 ·have h0 := h0b
  try simp only [qqT, qqF, qqN, qqM, qqL, qqE] at h0
  refine VC.region ?_
  refine VO.val rfl rfl (OpV.fieldAddrO 1 rfl Tryz.underlying165 rfl rfl Tryz.sizeOf3 rfl) ?_
  refine VO.val rfl rfl (OpV.load_own (i := 2) rfl hB Tryz.isAgg3 rfl rfl rfl (fun h => h)) ?_
  refine VO.le _ (Le.pickH [0, 1] rfl rfl) ?_
  refine VO.op rfl (OpE.store (i := 1) rfl hB rfl Tryz.sizeOf3 rfl rfl rfl rfl rfl rfl (Nle rfl) trivial ?_)
  refine VO.nil ?_
  exact Exists.intro _ (And.intro (RetV.none Tryz.results138) (by unfold stpE; first | (rw [if_pos (by omega)]; rfl) | (rw [if_neg (by omega)]; rfl)))
 ·have h0 := h0b
  try simp only [qqT, qqF, qqN, qqM, qqL, qqE] at h0
  refine VC.le _ (Le.pickH [0, 1] rfl rfl) ?_
  refine VC.skip ?_
  exact Exists.intro _ (And.intro (RetV.none Tryz.results138) (by unfold stpE; first | (rw [if_pos (by omega)]; rfl) | (rw [if_neg (by omega)]; rfl)))
theorem prom_does {o : List OrdrS} {g7 g25 n : Nat} {Tq Ti : TypeId} (hl : o.length ≤ 1000000) : DoesW n (fun (a : Int) h => h = bxE o a Tq Ti g7 g25) (stpE o.length) Tryz.prog 138 #[ptv g7, ptv g25] := by
 rintro i w a h h0 h1 rfl
 exact plan_Promise2 (x := w) (i := i) (a := a) hl
section
variable (p : List PaceS) (o : List OrdrS) (l : List Int) (s e : Int) (x : OrdrS)
def prL (k : Nat) : Int := (resP p (o ++ [x]) (insL l k o.length) s e (insL l k o.length).length).late
def prE (k : Nat) : Int := endP p (o ++ [x]) (insL l k o.length) s e k
def prS : Nat → Int × Int
 | 0 => (-1, 0)
 | q + 1 => if (prS q).1 < 0 ∨ prL p o l s e x q < (prS q).1 ∨ (prL p o l s e x q = (prS q).1 ∧ prE p o l s e x q < (prS q).2) then (prL p o l s e x q, prE p o l s e x q) else prS q
def prmE : Int := if scheF p o l s e ≠ 0 then scheF p o l s e else if ordrF [x] ≠ 0 then ordrF [x] else if o.any (fun y => sEq y.key x.key) = true then 6 else if hasP p x.product = true then 0 else 8
def prmA : Int := if prmE p o l s e x = 0 then (prS p o l s e x (l.length + 1)).2 else 0
def prmG : Int := if prmE p o l s e x = 0 then (prS p o l s e x (l.length + 1)).1 - lateZ p o l e s else 0
end
section
variable {p : List PaceS} {o : List OrdrS} {l : List Int} {s e : Int} {x : OrdrS}
theorem prS_t {q : Nat} (h : (prS p o l s e x q).1 < 0 ∨ prL p o l s e x q < (prS p o l s e x q).1 ∨ (prL p o l s e x q = (prS p o l s e x q).1 ∧ prE p o l s e x q < (prS p o l s e x q).2)) : prS p o l s e x (q + 1) = (prL p o l s e x q, prE p o l s e x q) := by rw [prS, if_pos h]
theorem prS_f {q : Nat} (h : ¬ ((prS p o l s e x q).1 < 0 ∨ prL p o l s e x q < (prS p o l s e x q).1 ∨ (prL p o l s e x q = (prS p o l s e x q).1 ∧ prE p o l s e x q < (prS p o l s e x q).2))) : prS p o l s e x (q + 1) = prS p o l s e x q := by rw [prS, if_neg h]
theorem prS_is {q : Nat} (hL : ∀ k, k < q → 0 ≤ prL p o l s e x k) (h0 : 0 < q) : ∃ k, k < q ∧ prS p o l s e x q = (prL p o l s e x k, prE p o l s e x k) := by
 induction q with
 | zero => omega
 | succ q ih =>
  by_cases h : (prS p o l s e x q).1 < 0 ∨ prL p o l s e x q < (prS p o l s e x q).1 ∨ (prL p o l s e x q = (prS p o l s e x q).1 ∧ prE p o l s e x q < (prS p o l s e x q).2)
  ·exact ⟨q, Nat.lt_succ_self _, prS_t h⟩
  ·rw [prS_f h]
   cases q with
   | zero => exact absurd (.inl (by show (-1 : Int) < 0; decide)) h
   | succ q =>
    obtain ⟨k, hk, hke⟩ := ih (fun k hk => hL k (by omega)) (Nat.succ_pos _)
    exact ⟨k, by omega, hke⟩
theorem prmE_1 (h : scheF p o l s e ≠ 0) : prmE p o l s e x = scheF p o l s e := by rw [prmE, if_pos h]
theorem prmE_2 (h : scheF p o l s e = 0) (h2 : ordrF [x] ≠ 0) : prmE p o l s e x = ordrF [x] := by rw [prmE, if_neg (by omega), if_pos h2]
theorem prmE_6 (h : scheF p o l s e = 0) (h2 : ordrF [x] = 0) (h3 : o.any (fun y => sEq y.key x.key) = true) : prmE p o l s e x = 6 := by rw [prmE, if_neg (by omega), if_neg (by omega), if_pos h3]
theorem prmE_8 (h : scheF p o l s e = 0) (h2 : ordrF [x] = 0) (h3 : o.any (fun y => sEq y.key x.key) = false) (h4 : hasP p x.product = false) : prmE p o l s e x = 8 := by rw [prmE, if_neg (by omega), if_neg (by omega), if_neg (by rw [h3]; decide), if_neg (by rw [h4]; decide)]
theorem prmE_0 (h : scheF p o l s e = 0) (h2 : ordrF [x] = 0) (h3 : o.any (fun y => sEq y.key x.key) = false) (h4 : hasP p x.product = true) : prmE p o l s e x = 0 := by rw [prmE, if_neg (by omega), if_neg (by omega), if_neg (by rw [h3]; decide), if_pos h4]
theorem prm_no (h : prmE p o l s e x ≠ 0) : prmA p o l s e x = 0 ∧ prmG p o l s e x = 0 := by rw [prmA, if_neg h, prmG, if_neg h]; exact ⟨rfl, rfl⟩
theorem prm_ok (h : prmE p o l s e x = 0) : prmA p o l s e x = (prS p o l s e x (l.length + 1)).2 ∧ prmG p o l s e x = (prS p o l s e x (l.length + 1)).1 - lateZ p o l e s := by rw [prmA, if_pos h, prmG, if_pos h]; exact ⟨rfl, rfl⟩
theorem one_ok (h : ordrF [x] = 0) : (1 ≤ x.count ∧ x.count ≤ 100000) ∧ (0 ≤ x.ready ∧ x.ready ≤ 345686399999) ∧ (0 ≤ x.due ∧ x.due ≤ 345686399999) := (ordrE_zero ((ordrsOk h).all 0 (Nat.succ_pos _))).2.2
theorem runA_end {k : Nat} (h : SchOk p (o ++ [x]) (insL l k o.length) s e) (hk : k ≤ l.length) (hl : Ord o.length l) : ∀ q, q ≤ l.length + 1 → runA (stpE o.length) p (o ++ [x]) (insL l k o.length) s e 0 q = if k < q then prE p o l s e x k else 0
 | 0, _ => by rw [if_neg (by omega)]; rfl
 | q + 1, hq => by
  rw [runA, runA_end h hk hl q (by omega)]
  unfold stpE
  by_cases hkq : q = k
  ·subst hkq
   rw [insL_at hk, if_pos rfl, if_pos (Nat.lt_succ_self _)]
   rfl
  ·have hne : (insL l k o.length).getD q 0 ≠ (o.length : Int) := by
    by_cases h2 : q < k
    ·rw [insL_lo hk h2]
     have := hl.lt (l.getD q 0) (by rw [List.getD_eq_getElem?_getD, List.getElem?_eq_getElem (by omega)]; exact List.getElem_mem _)
     omega
    ·obtain ⟨m, rfl⟩ : ∃ m, q = m + 1 := ⟨q - 1, by omega⟩
     rw [insL_hi hk (by omega)]
     have := hl.lt (l.getD m 0) (by rw [List.getD_eq_getElem?_getD, List.getElem?_eq_getElem (by omega)]; exact List.getElem_mem _)
     omega
   rw [if_neg hne]
   by_cases h3 : k < q
   ·rw [if_pos h3, if_pos (by omega)]
   ·rw [if_neg h3, if_neg (by omega)]
end
end Go.Proofs.YtmahammdnmmmoaaGreatDoor
namespace Go.Proofs.YtmahammdnmmmoaaGreatDoor
open Go.RowKit
set_option linter.unusedVariables false
set_option linter.unusedSimpArgs false
section
variable {P : Program} {ops : Array Oper} {Q : Act → World → Prop} {md : Region.Mode} {E : Nat → World → World → Prop}
theorem wpAnyE_firstT {S : Nat → Bool} {F : World → World → Prop} (htr : ∀ x y z, F x y → F y z → F x z) (hrf : ∀ x, F x x) {i : Nat} (hEr : ∀ x, E i x x)
  (hEF : ∀ j oj, ops[j]? = some oj → S j = false → ∀ w w', E j w w' → F w w') (hcl : ∀ k, S k = true → k ≠ i → ∃ ok, ops[k]? = some ok ∧ ∃ e ∈ ok.after, Region.binds md e = true ∧ S e.on = true)
  {oi : Oper} {v : Value} (hi : ops[i]? = some oi) (hsel : ∀ (j : Nat) (o : Oper) cs b, ops[j]? = some o → o.op ≠ .select cs b) :
  ∀ (fuel : Nat) (listed : Array Bool) (a : Act) (w : World), (∀ k, S k = true → listed.getD k true = false) →
   (∀ j oj, ops[j]? = some oj → j ≠ i → listed.getD j true = false → (∀ e ∈ oj.after, Region.binds md e = true → e.on ≠ i) → oi.apart ops oj = true) →
   i ∈ Region.ready md ops listed → YieldsE P ops F oi v a w →
   wpAnyE P md ops Q E fuel (listed.setIfInBounds i true) (a.put oi.dst v) w → wpAnyE P md ops Q E (fuel + 1) listed a w := by
 intro fuel
 induction fuel with
 | zero =>
  intro listed a w _ _ hr hy H
  refine ⟨fun h => (by rw [h] at hr; cases hr), fun j hj => ?_⟩
  by_cases hji : j = i
  ·subst hji; exact YieldsIf.wpOp hi hy.iff (hrf w) ⟨hEr w, H⟩
  ·have := ready_mono hj hji
   rw [H.1] at this
   cases this
 | succ fuel ih =>
  intro listed a w hS hfree hr hy H
  refine ⟨fun h => (by rw [h] at hr; cases hr), fun j hj => ?_⟩
  by_cases hji : j = i
  ·subst hji; exact YieldsIf.wpOp hi hy.iff (hrf w) ⟨hEr w, H⟩
  ·have h1 := H.2 j (ready_mono hj hji)
   obtain ⟨hjun, oj, hoj, hall⟩ := mem_ready.1 hj
   have hnot : ∀ e ∈ oj.after, Region.binds md e = true → e.on ≠ i := fun e he hb heq => by
    have h1 := hall e he hb
    have h0 := (mem_ready.1 hr).1
    rw [heq] at h1
    rcases Nat.lt_or_ge i listed.size with h' | h'
    ·simp [h'] at h0 h1; rw [h0] at h1; cases h1
    ·simp [Array.getElem?_eq_none h'] at h1
   have hjS : S j = false := by
    cases hc : S j with
    | false => rfl
    | true =>
     obtain ⟨ok, k1, e, he, hb, k2⟩ := hcl j hc hji
     obtain rfl : oj = ok := Option.some.inj (hoj.symm.trans k1)
     have h1 := hall e he hb
     have h0 := hS e.on k2
     rcases Nat.lt_or_ge e.on listed.size with h' | h'
     ·simp [h'] at h0 h1; rw [h0] at h1; cases h1
     ·simp [Array.getElem?_eq_none h'] at h1
   have h2 := wpOp_putIf (S := F w) hoj (hfree j oj hoj hji hjun hnot) (fun cs b => hsel i oi cs b hi) (fun cs b => hsel j oj cs b hoj) (fun c a w h => h.elim) hy.iff h1
   have hfree' : ∀ k ok, ops[k]? = some ok → k ≠ i → (listed.setIfInBounds j true).getD k true = false →
     (∀ e ∈ ok.after, Region.binds md e = true → e.on ≠ i) → oi.apart ops ok = true := fun k ok hk hki hun hno => by
    refine hfree k ok hk hki ?_ hno
    by_cases hjk : j = k
    ·subst hjk; exact hjun
    ·rw [Go.getD_set_ne true hjk] at hun; exact hun
   have hS' : ∀ k, S k = true → (listed.setIfInBounds j true).getD k true = false := fun k hk => by
    have hjk : j ≠ k := fun e => by rw [e, hk] at hjS; cases hjS
    rw [Go.getD_set_ne true hjk]; exact hS k hk
   refine wpOp_mono (fun a' w' h3 => ⟨h3.2.1, ih (listed.setIfInBounds j true) a' w' hS' hfree' (ready_mono hr (Ne.symm hji)) ?_ ?_⟩) h2
   ·rcases h3.1 with ⟨k1, k2⟩ | k
    ·exact .inl ⟨k1, fun w'' hw'' => k2 w'' (htr _ _ _ (hEF j oj hoj hjS _ _ h3.2.1) hw'')⟩
    ·exact .inr k
   rw [Array.setIfInBounds_comm _ _ hji]
   exact h3.2.2
end
section
variable {P : Program} {B : Bs} {V : Nat → Nat → Prop} {ops : Array Oper} {s : St'} {Q : Exit → St' → Prop} {n : Nat} {L : Array Bool}
def WS (V : Nat → Nat → Prop) (S : List Nat) : Nat → Prop := fun b => ∃ j, S.contains j = false ∧ V j b
def hangB (ops : Array Oper) (S : List Nat) (i : Nat) : Bool := S.all fun k => k == i || match ops[k]? with
 | some o => o.after.any fun e => Region.binds .any e && S.contains e.on
 | none => false
theorem VA.takeT (S : List Nat) {i : Nat} {o : Oper} {x : AV} (hS : hangB ops S i = true) (hL : (S.all fun k => !(L.getD k true)) = true) (hi : ops[i]? = some o) (hs : Region.noSelect ops = true) (hf : Region.free .any ops L i = true) (hr : (Region.ready .any ops L).contains i = true) (hg : o.guard = none) (hd : okd B.nt o.dst = true)
  (hv : OpV P B (WS V S) s o x) (h : VA P B V ops Q n (L.setIfInBounds i true) (s.put o.dst x)) : VA P B V ops Q (n + 1) L s := fun a w hR => by
 obtain ⟨v, h1, h2⟩ := hv a w hR
 refine wpAnyE_firstT (S := fun k => S.contains k) (F := Ew B (WS V S)) Ew.tr Ew.rf (fun x => Ew.rf x) (fun j oj hj hjS w w' h => h.mono fun b _ hb => hb.imp id fun hv => ⟨j, hjS, hv⟩) (fun k hk hki => ?_) hi (Region.noSelect_spec hs) n L a w (fun k hk => ?_) (Region.free_spec hi hf) (by simpa using hr) (.inl ⟨by simp [Region.wanted, hg], h1⟩) (h _ _ (hR.put _ hd _ _ h2))
 ·have hk' : k ∈ S := by simpa using hk
  have := List.all_eq_true.1 hS k hk'
  simp only [Bool.or_eq_true, beq_iff_eq] at this
  have := this.resolve_left hki
  cases ho : ops[k]? with
  | none => rw [ho] at this; cases this
  | some ok =>
   rw [ho] at this
   obtain ⟨e, he, h3⟩ := Array.any_eq_true'.1 this
   simp only [Bool.and_eq_true] at h3
   exact ⟨ok, rfl, e, he, h3.1, h3.2⟩
 ·have hk' : k ∈ S := by simpa using hk
  have := List.all_eq_true.1 hL k hk'
  simpa using this
end
end Go.Proofs.YtmahammdnmmmoaaGreatDoor
namespace Go.Proofs.YtmahammdnmmmoaaGreatDoor
open Go.RowKit
set_option linter.unusedVariables false
set_option linter.unusedSimpArgs false
theorem perm_mid {α : Type} {a b r c : α} : [a, b, r, c].Perm ([r] ++ [a, b, c]) := by
 have : ([a, b] ++ r :: [c]).Perm (r :: ([a, b] ++ [c])) := List.perm_middle
 exact this
set_option maxRecDepth 100000 in
set_option maxHeartbeats 40000000 in
theorem plan_Promise {p : List PaceS} {o : List OrdrS} {l : List Int} {start each : Int} {x : OrdrS} (hp : SmPc p) (ho : SmOr o) (hl : l.length ≤ 1000000) (hx1 : SmOr [x]) :
    Spec Tryz.prog 34 [avL p, avL o, avInts l, avI start, avI each, avOr x] (fun y => y = .tup [avI (prmA p o l start each x), avI (prmG p o l start each x), avI (prmE p o l start each x)]) := by
  refine Spec.of_VC Tryz.func34 rfl Tryz.ntmps34 (Nle rfl) fun w A hB => ?_
  have hnew : True := trivial
  refine VC.sr ?_
  refine VO.op rfl (OpE.box rfl hB rfl rfl rfl ?_)
  intro g7
  refine VO.op rfl (OpE.box rfl hB rfl rfl rfl ?_)
  intro g11
  refine VO.ma rfl rfl rfl rfl ?_
  refine VO.ma rfl rfl rfl rfl ?_
  refine VO.ma rfl rfl rfl rfl ?_
  refine VO.nil ?_
  refine VC.sr ?_
  refine VO.mv rfl rfl rfl rfl ?_
  refine VO.val rfl rfl (OpV.load_own (i := 0) rfl hB Tryz.isAgg28 rfl rfl rfl (fun h => h)) ?_
  refine VO.mv rfl rfl rfl rfl ?_
  refine VO.mv rfl rfl rfl rfl ?_
  refine VO.mv rfl rfl rfl rfl ?_
  refine VO.op rfl (OpE.call rfl hB rfl Tryz.call131 rfl (plan_scheduled hp ho hl) ?_)
  rintro _ rfl
  refine VO.mv rfl rfl rfl rfl ?_
  refine VO.val rfl rfl (OpV.extract rfl rfl rfl) ?_
  refine VO.val rfl rfl (OpV.extract rfl rfl rfl) ?_
  refine VO.ma rfl rfl rfl rfl ?_
  refine VO.ma rfl rfl rfl rfl ?_
  refine VO.nil ?_
  refine VC.seq ?_
  refine VC.sr ?_
  refine VO.mv rfl rfl rfl rfl ?_
  refine VO.val rfl rfl (OpV.neq rfl rfl rfl) ?_
  refine VO.nil ?_
  refine VC.cond rfl (fun h0b => ?_) (fun h0b => ?_)
  · have h0 := h0b
    try simp only [qqT, qqF, qqN, qqM, qqL, qqE] at h0
    have hE := prmE_1 (x := x) h0
    have hN := prm_no (p := p) (o := o) (l := l) (s := start) (e := each) (x := x) (by rw [hE]; exact h0)
    refine VC.sr ?_
    refine VO.mv rfl rfl rfl rfl ?_
    refine VO.ma rfl rfl rfl rfl ?_
    refine VO.ma rfl rfl rfl rfl ?_
    refine VO.ma rfl rfl rfl rfl ?_
    refine VO.nil ?_
    refine VC.ret ?_
    exact Exists.intro _ (And.intro (RetV.three Tryz.results34 (ResV.tmp rfl) (ResV.tmp rfl) (ResV.tmp rfl)) (by rw [hN.1, hN.2, hE]))
  · have h0 := h0b
    try simp only [qqT, qqF, qqN, qqM, qqL, qqE] at h0
    have h00 : scheF p o l start each = 0 := by omega
    have hk := schOk h00
    have hkl := hk.len
    have hpl := hp.len
    have hol := ho.len
    refine VC.le _ (Le.recast (t := 15) (y := .at_ 3 (schC p o each)) rfl (fun w Z u h => by rw [← schAV_ok h00]; exact h)) ?_
    refine VC.skip ?_
    refine VC.seq ?_
    refine VC.sr ?_
    refine VO.val rfl rfl (OpV.loadK_own (i := 1) rfl hB Tryz.isAgg35 Tryz.sizeOf35 rfl rfl rfl (fun h => h)) ?_
    refine VO.op rfl (OpE.buildSlice (zc := #[.string ⟨#[]⟩, .string ⟨#[]⟩, .int .i64 0, .int .i64 0, .int .i64 0]) rfl hB rfl Tryz.underlying28 Tryz.sizeOf35 Tryz.zeroValue35 (by decide) (by decide) (by kernel_rfl) rfl rfl ?_)
    refine VO.le _ (Le.recast (t := 40) (y := avL [x]) rfl (fun w Z u h => Rep.rowL (xs := [x]) rfl h)) ?_
    refine VO.op rfl (OpE.call rfl hB rfl Tryz.call91 rfl (SpecN.spec (plan_CheckOrders hx1)) ?_)
    rintro _ rfl
    refine VO.ma rfl rfl rfl rfl ?_
    refine VO.nil ?_
    refine VC.sr ?_
    refine VO.mv rfl rfl rfl rfl ?_
    refine VO.val rfl rfl (OpV.neq rfl rfl rfl) ?_
    refine VO.nil ?_
    refine VC.cond rfl (fun h1b => ?_) (fun h1b => ?_)
    · have h1 := h1b
      try simp only [qqT, qqF, qqN, qqM, qqL, qqE] at h1
      have hE := prmE_2 h00 h1
      have hN := prm_no (p := p) (o := o) (l := l) (s := start) (e := each) (x := x) (by rw [hE]; exact h1)
      refine VC.sr ?_
      refine VO.mv rfl rfl rfl rfl ?_
      refine VO.ma rfl rfl rfl rfl ?_
      refine VO.ma rfl rfl rfl rfl ?_
      refine VO.ma rfl rfl rfl rfl ?_
      refine VO.nil ?_
      refine VC.ret ?_
      exact Exists.intro _ (And.intro (RetV.three Tryz.results34 (ResV.tmp rfl) (ResV.tmp rfl) (ResV.tmp rfl)) (by rw [hN.1, hN.2, hE]))
    · have h1 := h1b
      try simp only [qqT, qqF, qqN, qqM, qqL, qqE] at h1
      have h10 : ordrF [x] = 0 := by omega
      have hxb := one_ok h10
      refine VC.skip ?_
      refine VC.seq ?_
      refine VC.sr ?_
      refine VO.val rfl rfl (OpV.load_own (i := 0) rfl hB Tryz.isAgg28 rfl rfl rfl (fun h => h)) ?_
      refine VO.val rfl rfl (OpV.makeFunc1 rfl rfl) ?_
      refine VO.op rfl (OpE.callL rfl hB rfl Tryz.call132 (slices_ContainsFunc_or (p := fun y => sEq y.key x.key) (by omega) Tryz.call133 (fun y => plan_Promise1.spec)) (ArgsP.cons (ArgP.ev rfl) (ArgsP.cons (ArgP.fn1 (i := 1) (m := 5) (f := Sxc.cell x) rfl rfl (Nle rfl) (lt5 rfl rfl rfl rfl rfl)) (ArgsP.nil))) ?_)
      rintro _ rfl
      refine VO.nil ?_
      refine VC.cond rfl (fun h2b => ?_) (fun h2b => ?_)
      · have h2 := h2b
        try simp only [qqT, qqF, qqN, qqM, qqL, qqE] at h2
        have hE := prmE_6 h00 h10 h2
        have hN := prm_no (p := p) (o := o) (l := l) (s := start) (e := each) (x := x) (by rw [hE]; decide)
        refine VC.sr ?_
        refine VO.ma rfl rfl rfl rfl ?_
        refine VO.ma rfl rfl rfl rfl ?_
        refine VO.ma rfl rfl rfl rfl ?_
        refine VO.nil ?_
        refine VC.ret ?_
        exact Exists.intro _ (And.intro (RetV.three Tryz.results34 (ResV.tmp rfl) (ResV.tmp rfl) (ResV.tmp rfl)) (by rw [hN.1, hN.2, hE]))
      · have h2 := h2b
        try simp only [qqT, qqF, qqN, qqM, qqL, qqE] at h2
        refine VC.skip ?_
        refine VC.seq ?_
        refine VC.sr ?_
        refine VO.mv rfl rfl rfl rfl ?_
        refine VO.val rfl rfl (OpV.fieldAddrO 1 rfl Tryz.underlying35 rfl rfl Tryz.sizeOf9 rfl) ?_
        refine VO.val rfl rfl (OpV.load_own (i := 1) rfl hB Tryz.isAgg9 rfl rfl rfl (fun h => h)) ?_
        refine VO.op rfl (OpE.call rfl hB rfl Tryz.call134 rfl (plan_paceOf (by omega) (pace_rise hk.pok)) ?_)
        rintro _ rfl
        refine VO.mv rfl rfl rfl rfl ?_
        refine VO.val rfl rfl (OpV.extract rfl rfl rfl) ?_
        refine VO.val rfl rfl (OpV.extract rfl rfl rfl) ?_
        refine VO.op rfl (OpE.alloc rfl hB rfl Tryz.zeroValue142 rfl ?_)
        intro g18
        refine VO.op rfl (OpE.store (i := 2) rfl hB rfl Tryz.sizeOf142 rfl rfl rfl rfl rfl rfl (Nle rfl) trivial ?_)
        refine VO.ma rfl rfl rfl rfl ?_
        refine VO.nil ?_
        refine VC.sr ?_
        refine VO.mv rfl rfl rfl rfl ?_
        refine VO.val rfl rfl (OpV.not rfl rfl) ?_
        refine VO.nil ?_
        refine VC.cond rfl (fun h3b => ?_) (fun h3b => ?_)
        · have h3 := h3b
          try simp only [qqT, qqF, qqN, qqM, qqL, qqE] at h3
          have h30 : hasP p x.product = false := by simp_all
          have hE := prmE_8 h00 h10 (by simp_all) h30
          have hN := prm_no (p := p) (o := o) (l := l) (s := start) (e := each) (x := x) (by rw [hE]; decide)
          refine VC.sr ?_
          refine VO.ma rfl rfl rfl rfl ?_
          refine VO.ma rfl rfl rfl rfl ?_
          refine VO.ma rfl rfl rfl rfl ?_
          refine VO.nil ?_
          refine VC.ret ?_
          exact Exists.intro _ (And.intro (RetV.three Tryz.results34 (ResV.tmp rfl) (ResV.tmp rfl) (ResV.tmp rfl)) (by rw [hN.1, hN.2, hE]))
        · have h3 := h3b
          try simp only [qqT, qqF, qqN, qqM, qqL, qqE] at h3
          have h30 : hasP p x.product = true := by simp_all
          have hE := prmE_0 h00 h10 (by simp_all) h30
          have hY := prm_ok hE
          have h200 := (ordrsOk (bothF_0 (by unfold scheF at h00; split at h00; contradiction; omega : bothF p o = 0)).2.1).len
          have hins := fun (k : Nat) (hk' : k ≤ l.length) => hk.ins h30 hxb h200 hk'
          have hi0 := hins 0 (Nat.zero_le _)
          refine VC.skip ?_
          refine VC.sr ?_
          refine VO.mv rfl rfl rfl rfl ?_
          refine VO.mv rfl rfl rfl rfl ?_
          refine VO.mv rfl rfl rfl rfl ?_
          refine VO.op rfl (OpE.call rfl hB rfl Tryz.call117 rfl (SpecN.spec (plan_result hk)) ?_)
          rintro _ rfl
          refine VO.val rfl rfl (OpV.field1 rfl Tryz.underlying150 rfl Tryz.isAgg3 rfl rfl) ?_
          refine VO.le _ (Le.recast (t := 61) (y := avI (lateZ p o l each start)) rfl (fun w Z u h => h)) ?_
          refine VO.ma rfl rfl rfl rfl ?_
          refine VO.nil ?_
          refine VC.seq ?_
          refine VC.hap (fun hap => ?_)
          refine VC.draw (fun j b => j ∈ [5] ∧ b ≠ g11) hB (by kernel_rfl) ?_
          refine VA.take (i := 0) rfl (by kernel_rfl) (by kernel_rfl) (by kernel_rfl) rfl rfl (OpV.move (.inl rfl) rfl) ?_
          refine VA.takeT [1, 2, 5] (i := 1) (by kernel_rfl) (by kernel_rfl) rfl (by kernel_rfl) (by kernel_rfl) (by kernel_rfl) rfl rfl (OpV.load_own (i := 0) rfl hB Tryz.isAgg28 rfl rfl rfl (fun ⟨j, h1, h2, _⟩ => by simp at h2; subst h2; simp at h1)) ?_
          refine VA.take (i := 3) rfl (by kernel_rfl) (by kernel_rfl) (by kernel_rfl) rfl rfl (OpV.loadK_own (i := 1) rfl hB Tryz.isAgg35 Tryz.sizeOf35 rfl rfl rfl (fun ⟨_, _, _, h⟩ => h rfl)) ?_
          refine VA.take (i := 6) rfl (by kernel_rfl) (by kernel_rfl) (by kernel_rfl) rfl rfl (OpV.move (.inl rfl) rfl) ?_
          refine VA.all (rs := [2, 4]) (by kernel_rfl) (by decide) ?_
          refine ⟨⟨_, rfl, .inl rfl, ?_⟩, ⟨_, rfl, .inl rfl, ?_⟩, trivial⟩
          ·
            refine OpE.callR rfl hB rfl Tryz.call135 (slices_CloneO_R (by omega)) (ArgsP.cons (ArgP.ev rfl) (ArgsP.nil)) ?_
            intro u64
            refine VA.all (rs := [4]) (by kernel_rfl) (by decide) ?_
            refine ⟨⟨_, rfl, .inl rfl, ?_⟩, trivial⟩
            refine OpE.buildSlice (zc := #[.string ⟨#[]⟩, .string ⟨#[]⟩, .int .i64 0, .int .i64 0, .int .i64 0]) rfl hB rfl Tryz.underlying28 Tryz.sizeOf35 Tryz.zeroValue35 (by decide) (by decide) (by kernel_rfl) rfl rfl ?_
            refine VA.all (rs := [5]) (by kernel_rfl) (by decide) ?_
            refine ⟨⟨_, rfl, .inl rfl, ?_⟩, trivial⟩
            refine OpE.hap (fun hap => ?_)
            refine OpE.append1 (i := 3) rfl hB rfl Tryz.underlying28 (infoOf Tryz.t35 5 (by kernel_rfl) rfl rfl) rfl (by decide) (by decide) rfl rfl rfl rfl (rowL_snoc o x) (by omega) (fun g' hg => ⟨by decide, apart_ne hap (i := 3) (j := 1) hg rfl (by decide)⟩) ?_
            intro u67
            refine VA.le _ (Le.rowT (t := 67) (xs := o ++ [x]) (i := 3) hB hnew rfl rfl (by simp)) ?_
            refine VA.all (rs := [7]) (by kernel_rfl) (by decide) ?_
            refine ⟨⟨_, rfl, .inl rfl, ?_⟩, trivial⟩
            refine OpE.call rfl hB rfl Tryz.call114 rfl (plan_newScheduler hp hi0.pok hi0.ook hi0.has hi0.ea) ?_
            rintro _ rfl
            refine VA.take (i := 8) rfl (by kernel_rfl) (by kernel_rfl) (by kernel_rfl) rfl rfl (OpV.move (.inr rfl) rfl) ?_
            refine VA.done (by kernel_rfl) ?_
            refine VC.seq ?_
            clear hap
            refine VC.region ?_
            refine VO.ma rfl rfl rfl rfl ?_
            refine VO.ma rfl rfl rfl rfl ?_
            refine VO.nil ?_
            refine VC.seq ?_
            refine VC.sr ?_
            refine VO.mv rfl rfl rfl rfl ?_
            refine VO.val rfl rfl (OpV.len_im rfl Tryz.underlying22 rfl) ?_
            refine VO.val rfl rfl (OpV.add rfl rfl rfl (by unfold fits; omega)) ?_
            refine VO.mv rfl rfl rfl rfl ?_
            refine VO.nil ?_
            refine VC.block ?_
            refine VC.loopK [(2, _), (3, _), (7, _), (20, _), (21, _), (72, _)] ⟨rfl, rfl, rfl, rfl, rfl, rfl, trivial⟩ ({q : Nat // q ≤ l.length + 1}) (fun (iZ : {q : Nat // q ≤ l.length + 1}) => match iZ with | ⟨q, hq⟩ => [(22, avI (prS p o l start each x q).1), (23, avI (prS p o l start each x q).2), (73, avI (q : Int))]) (fun (iZ : {q : Nat // q ≤ l.length + 1}) => match iZ with | ⟨q, hq⟩ => [.box g7 ⟨[avL o], 28, 1⟩]) (fun (iZ : {q : Nat // q ≤ l.length + 1}) => match iZ with | ⟨q, hq⟩ => 0) (fun (iZ : {q : Nat // q ≤ l.length + 1}) => match iZ with | ⟨q, hq⟩ => l.length + 1 - q) ⟨0, Nat.zero_le _⟩ (Le.mk hB [0] ⟨rfl, rfl, rfl, rfl, rfl, rfl, rfl, rfl, rfl, trivial⟩ rfl rfl (Nat.le_refl _)) ?_
            rintro ⟨q, hq⟩
            show VC _ _ _ _ ⟨[(22, avI (prS p o l start each x q).1), (23, avI (prS p o l start each x q).2), (73, avI (q : Int))] ++ [(2, _), (3, _), (7, _), (20, _), (21, _), (72, _)], [.box g7 ⟨[avL o], 28, 1⟩], 0⟩
            refine VC.sr ?_
            refine VO.val rfl rfl (OpV.lss rfl rfl rfl) ?_
            refine VO.nil ?_
            refine VC.seq ?_
            refine VC.cond rfl (fun aH1b => ?_) (fun aH1b => ?_)
            · have aH1 := aH1b
              try simp only [qqT, qqF, qqN, qqM, qqL, qqE] at aH1
              refine VC.skip ?_
              refine VC.seq ?_
              refine VC.block ?_
              refine VC.sr ?_
              refine VO.mv rfl rfl rfl rfl ?_
              refine VO.ma rfl rfl rfl rfl ?_
              refine VO.nil ?_
              refine VC.sr ?_
              refine VO.op rfl (OpE.alloc rfl hB rfl Tryz.zeroValue3 rfl ?_)
              intro g25
              refine VO.op rfl (OpE.store (i := 1) rfl hB rfl Tryz.sizeOf3 rfl rfl rfl rfl rfl rfl (Nle rfl) trivial ?_)
              refine VO.nil ?_
              refine VC.joinI (Nat) (fun (iZ : Nat) => match iZ with | g26 => ⟨[(2, avInts l), (3, avI start), (7, pt g7), (20, avI (lateZ p o l each start)), (21, .at_ 3 (schC p (o ++ [x]) each)), (22, avI (prS p o l start each x q).1), (23, avI (prS p o l start each x q).2), (25, pt g25), (26, pt g26), (72, avI ((l.length : Int) + 1)), (73, avI (q : Int))], [.box g7 ⟨[avL o], 28, 1⟩, .box g25 ⟨[avI (runA (stpE o.length) p (o ++ [x]) (insL l q o.length) start each 0 (insL l q o.length).length)], 3, 1⟩, .box g26 ⟨[avI (resP p (o ++ [x]) (insL l q o.length) start each (insL l q o.length).length).late, avI (resP p (o ++ [x]) (insL l q o.length) start each (insL l q o.length).length).many, avI (resP p (o ++ [x]) (insL l q o.length) start each (insL l q o.length).length).en], 150, 3⟩], 0⟩) ?_ ?_
              ·
                have hiq := hins q (by omega)
                refine VC.draw (fun j b => j ∈ [7, 10, 12] ∧ True) hB (by kernel_rfl) ?_
                refine VA.take (i := 0) rfl (by kernel_rfl) (by kernel_rfl) (by kernel_rfl) rfl rfl (OpV.move (.inl rfl) rfl) ?_
                refine VA.take (i := 1) rfl (by kernel_rfl) (by kernel_rfl) (by kernel_rfl) rfl rfl (OpV.move (.inl rfl) rfl) ?_
                refine VA.take (i := 3) rfl (by kernel_rfl) (by kernel_rfl) (by kernel_rfl) rfl rfl (OpV.move (.inl rfl) rfl) ?_
                refine VA.takeT [4, 5, 6, 7, 10, 12] (i := 4) (by kernel_rfl) (by kernel_rfl) rfl (by kernel_rfl) (by kernel_rfl) (by kernel_rfl) rfl rfl (OpV.load_own (i := 0) rfl hB Tryz.isAgg28 rfl rfl rfl (fun ⟨j, h1, h2, _⟩ => by simp at h2; rcases h2 with rfl | rfl | rfl <;> simp at h1)) ?_
                refine VA.take (i := 5) rfl (by kernel_rfl) (by kernel_rfl) (by kernel_rfl) rfl rfl (OpV.len_im rfl Tryz.underlying28 rfl) ?_
                refine VA.take (i := 8) rfl (by kernel_rfl) (by kernel_rfl) (by kernel_rfl) rfl rfl (OpV.move (.inl rfl) rfl) ?_
                refine VA.take (i := 9) rfl (by kernel_rfl) (by kernel_rfl) (by kernel_rfl) rfl rfl (OpV.makeFunc2 rfl rfl rfl) ?_
                refine VA.all (rs := [2, 6, 11]) (by kernel_rfl) (by decide) ?_
                refine ⟨⟨_, rfl, .inl rfl, ?_⟩, ⟨_, rfl, .inl rfl, ?_⟩, ⟨_, rfl, .inl rfl, ?_⟩, trivial⟩
                ·
                  refine OpE.callR rfl hB rfl Tryz.call120 (slices_Clone_R (by omega)) (ArgsP.cons (ArgP.ev rfl) (ArgsP.nil)) ?_
                  intro u78
                  refine VA.all (rs := [6, 11]) (by kernel_rfl) (by decide) ?_
                  refine ⟨⟨_, rfl, .inl rfl, ?_⟩, ⟨_, rfl, .inl rfl, ?_⟩, trivial⟩
                  ·
                    refine OpE.buildSlice (zc := #[.int .i64 0]) rfl hB rfl Tryz.underlying22 Tryz.sizeOf3 Tryz.zeroValue3 (by decide) (by decide) (by kernel_rfl) rfl rfl ?_
                    refine VA.le _ (Le.lits (t := 82) (xs := [(o.length : Int)]) rfl rfl) ?_
                    refine VA.all (rs := [7, 11]) (by kernel_rfl) (by decide) ?_
                    refine ⟨⟨_, rfl, .inl rfl, ?_⟩, ⟨_, rfl, .inl rfl, ?_⟩, trivial⟩
                    ·
                      refine OpE.callH (rest := [_, _]) rfl hB rfl Tryz.call137 rfl rfl (slices_InsertI (p := l) (x := (o.length : Int)) (k := q) (by omega) (by omega)) (List.perm_append_comm (l₁ := [_, _]) (l₂ := [_])) (fun _ _ => ⟨by decide, trivial⟩) ?_
                      rintro _ _ ⟨u83, rfl, rfl⟩
                      refine VA.le _ (Le.rowI (t := 83) (i := 0) (xs := insL l q o.length) hB hnew rfl rfl (by rw [insL_len (by omega)])) ?_
                      refine VA.all (rs := [10, 11]) (by kernel_rfl) (by decide) ?_
                      refine ⟨⟨_, rfl, .inl rfl, ?_⟩, ⟨_, rfl, .inl rfl, ?_⟩, trivial⟩
                      ·
                        refine OpE.callH0 rfl hB rfl Tryz.call136 rfl rfl (plan_run (K := fun a h => h = bxE o a 28 3 g7 g25) (a := 0) hiq Tryz.call138 (prom_does (by omega)) rfl) (List.Perm.refl _) (fun _ _ => ⟨by decide, trivial⟩) ?_
                        rintro _ _ ⟨_, e1, e2, rfl, rfl, rfl⟩
                        refine VA.le _ (Le.drop 2) ?_
                        refine VA.all (rs := [11]) (by kernel_rfl) (by decide) ?_
                        refine ⟨⟨_, rfl, .inl rfl, ?_⟩, trivial⟩
                        refine OpE.alloc rfl hB rfl Tryz.zeroValue150 rfl ?_
                        intro g26
                        refine VA.all (rs := [12]) (by kernel_rfl) (by decide) ?_
                        refine ⟨⟨_, rfl, .inl rfl, ?_⟩, trivial⟩
                        refine OpE.store (i := 2) rfl hB rfl Tryz.sizeOf150 rfl rfl rfl rfl rfl rfl (Nle rfl) (⟨by decide, trivial⟩) ?_
                        refine VA.done (by kernel_rfl) ?_
                        exact Exists.intro (g26) (Le.mk hB [0, 1, 2] ⟨rfl, rfl, rfl, rfl, rfl, rfl, rfl, rfl, rfl, rfl, rfl, trivial⟩ rfl rfl (Nat.le_refl _))
                      ·
                        refine OpE.alloc rfl hB rfl Tryz.zeroValue150 rfl ?_
                        intro g26
                        refine VA.all (rs := [10]) (by kernel_rfl) (by decide) ?_
                        refine ⟨⟨_, rfl, .inl rfl, ?_⟩, trivial⟩
                        refine OpE.callH (rest := [_]) rfl hB rfl Tryz.call136 rfl rfl (plan_run (K := fun a h => h = bxE o a 28 3 g7 g25) (a := 0) hiq Tryz.call138 (prom_does (by omega)) rfl) (List.Perm.refl _) (fun _ _ => ⟨by decide, trivial⟩) ?_
                        rintro _ _ ⟨_, e1, e2, rfl, rfl, rfl⟩
                        refine VA.le _ (Le.drop 2) ?_
                        refine VA.all (rs := [12]) (by kernel_rfl) (by decide) ?_
                        refine ⟨⟨_, rfl, .inl rfl, ?_⟩, trivial⟩
                        refine OpE.store (i := 2) rfl hB rfl Tryz.sizeOf150 rfl rfl rfl rfl rfl rfl (Nle rfl) (⟨by decide, trivial⟩) ?_
                        refine VA.done (by kernel_rfl) ?_
                        exact Exists.intro (g26) (Le.mk hB [0, 1, 2] ⟨rfl, rfl, rfl, rfl, rfl, rfl, rfl, rfl, rfl, rfl, rfl, trivial⟩ rfl rfl (Nat.le_refl _))
                    ·
                      refine OpE.alloc rfl hB rfl Tryz.zeroValue150 rfl ?_
                      intro g26
                      refine VA.all (rs := [7]) (by kernel_rfl) (by decide) ?_
                      refine ⟨⟨_, rfl, .inl rfl, ?_⟩, trivial⟩
                      refine OpE.callH (rest := [_, _, _]) rfl hB rfl Tryz.call137 rfl rfl (slices_InsertI (p := l) (x := (o.length : Int)) (k := q) (by omega) (by omega)) (perm_mid) (fun _ _ => ⟨by decide, trivial⟩) ?_
                      rintro _ _ ⟨u83, rfl, rfl⟩
                      refine VA.le _ (Le.rowI (t := 83) (i := 0) (xs := insL l q o.length) hB hnew rfl rfl (by rw [insL_len (by omega)])) ?_
                      refine VA.all (rs := [10]) (by kernel_rfl) (by decide) ?_
                      refine ⟨⟨_, rfl, .inl rfl, ?_⟩, trivial⟩
                      refine OpE.callH (rest := [_]) rfl hB rfl Tryz.call136 rfl rfl (plan_run (K := fun a h => h = bxE o a 28 3 g7 g25) (a := 0) hiq Tryz.call138 (prom_does (by omega)) rfl) (List.Perm.refl _) (fun _ _ => ⟨by decide, trivial⟩) ?_
                      rintro _ _ ⟨_, e1, e2, rfl, rfl, rfl⟩
                      refine VA.le _ (Le.drop 2) ?_
                      refine VA.all (rs := [12]) (by kernel_rfl) (by decide) ?_
                      refine ⟨⟨_, rfl, .inl rfl, ?_⟩, trivial⟩
                      refine OpE.store (i := 2) rfl hB rfl Tryz.sizeOf150 rfl rfl rfl rfl rfl rfl (Nle rfl) (⟨by decide, trivial⟩) ?_
                      refine VA.done (by kernel_rfl) ?_
                      exact Exists.intro (g26) (Le.mk hB [0, 1, 2] ⟨rfl, rfl, rfl, rfl, rfl, rfl, rfl, rfl, rfl, rfl, rfl, trivial⟩ rfl rfl (Nat.le_refl _))
                  ·
                    refine OpE.alloc rfl hB rfl Tryz.zeroValue150 rfl ?_
                    intro g26
                    refine VA.all (rs := [6]) (by kernel_rfl) (by decide) ?_
                    refine ⟨⟨_, rfl, .inl rfl, ?_⟩, trivial⟩
                    refine OpE.buildSlice (zc := #[.int .i64 0]) rfl hB rfl Tryz.underlying22 Tryz.sizeOf3 Tryz.zeroValue3 (by decide) (by decide) (by kernel_rfl) rfl rfl ?_
                    refine VA.le _ (Le.lits (t := 82) (xs := [(o.length : Int)]) rfl rfl) ?_
                    refine VA.all (rs := [7]) (by kernel_rfl) (by decide) ?_
                    refine ⟨⟨_, rfl, .inl rfl, ?_⟩, trivial⟩
                    refine OpE.callH (rest := [_, _, _]) rfl hB rfl Tryz.call137 rfl rfl (slices_InsertI (p := l) (x := (o.length : Int)) (k := q) (by omega) (by omega)) (perm_mid) (fun _ _ => ⟨by decide, trivial⟩) ?_
                    rintro _ _ ⟨u83, rfl, rfl⟩
                    refine VA.le _ (Le.rowI (t := 83) (i := 0) (xs := insL l q o.length) hB hnew rfl rfl (by rw [insL_len (by omega)])) ?_
                    refine VA.all (rs := [10]) (by kernel_rfl) (by decide) ?_
                    refine ⟨⟨_, rfl, .inl rfl, ?_⟩, trivial⟩
                    refine OpE.callH (rest := [_]) rfl hB rfl Tryz.call136 rfl rfl (plan_run (K := fun a h => h = bxE o a 28 3 g7 g25) (a := 0) hiq Tryz.call138 (prom_does (by omega)) rfl) (List.Perm.refl _) (fun _ _ => ⟨by decide, trivial⟩) ?_
                    rintro _ _ ⟨_, e1, e2, rfl, rfl, rfl⟩
                    refine VA.le _ (Le.drop 2) ?_
                    refine VA.all (rs := [12]) (by kernel_rfl) (by decide) ?_
                    refine ⟨⟨_, rfl, .inl rfl, ?_⟩, trivial⟩
                    refine OpE.store (i := 2) rfl hB rfl Tryz.sizeOf150 rfl rfl rfl rfl rfl rfl (Nle rfl) (⟨by decide, trivial⟩) ?_
                    refine VA.done (by kernel_rfl) ?_
                    exact Exists.intro (g26) (Le.mk hB [0, 1, 2] ⟨rfl, rfl, rfl, rfl, rfl, rfl, rfl, rfl, rfl, rfl, rfl, trivial⟩ rfl rfl (Nat.le_refl _))
                ·
                  refine OpE.buildSlice (zc := #[.int .i64 0]) rfl hB rfl Tryz.underlying22 Tryz.sizeOf3 Tryz.zeroValue3 (by decide) (by decide) (by kernel_rfl) rfl rfl ?_
                  refine VA.le _ (Le.lits (t := 82) (xs := [(o.length : Int)]) rfl rfl) ?_
                  refine VA.all (rs := [2, 11]) (by kernel_rfl) (by decide) ?_
                  refine ⟨⟨_, rfl, .inl rfl, ?_⟩, ⟨_, rfl, .inl rfl, ?_⟩, trivial⟩
                  ·
                    refine OpE.callR rfl hB rfl Tryz.call120 (slices_Clone_R (by omega)) (ArgsP.cons (ArgP.ev rfl) (ArgsP.nil)) ?_
                    intro u78
                    refine VA.all (rs := [7, 11]) (by kernel_rfl) (by decide) ?_
                    refine ⟨⟨_, rfl, .inl rfl, ?_⟩, ⟨_, rfl, .inl rfl, ?_⟩, trivial⟩
                    ·
                      refine OpE.callH (rest := [_, _]) rfl hB rfl Tryz.call137 rfl rfl (slices_InsertI (p := l) (x := (o.length : Int)) (k := q) (by omega) (by omega)) (List.perm_append_comm (l₁ := [_, _]) (l₂ := [_])) (fun _ _ => ⟨by decide, trivial⟩) ?_
                      rintro _ _ ⟨u83, rfl, rfl⟩
                      refine VA.le _ (Le.rowI (t := 83) (i := 0) (xs := insL l q o.length) hB hnew rfl rfl (by rw [insL_len (by omega)])) ?_
                      refine VA.all (rs := [10, 11]) (by kernel_rfl) (by decide) ?_
                      refine ⟨⟨_, rfl, .inl rfl, ?_⟩, ⟨_, rfl, .inl rfl, ?_⟩, trivial⟩
                      ·
                        refine OpE.callH0 rfl hB rfl Tryz.call136 rfl rfl (plan_run (K := fun a h => h = bxE o a 28 3 g7 g25) (a := 0) hiq Tryz.call138 (prom_does (by omega)) rfl) (List.Perm.refl _) (fun _ _ => ⟨by decide, trivial⟩) ?_
                        rintro _ _ ⟨_, e1, e2, rfl, rfl, rfl⟩
                        refine VA.le _ (Le.drop 2) ?_
                        refine VA.all (rs := [11]) (by kernel_rfl) (by decide) ?_
                        refine ⟨⟨_, rfl, .inl rfl, ?_⟩, trivial⟩
                        refine OpE.alloc rfl hB rfl Tryz.zeroValue150 rfl ?_
                        intro g26
                        refine VA.all (rs := [12]) (by kernel_rfl) (by decide) ?_
                        refine ⟨⟨_, rfl, .inl rfl, ?_⟩, trivial⟩
                        refine OpE.store (i := 2) rfl hB rfl Tryz.sizeOf150 rfl rfl rfl rfl rfl rfl (Nle rfl) (⟨by decide, trivial⟩) ?_
                        refine VA.done (by kernel_rfl) ?_
                        exact Exists.intro (g26) (Le.mk hB [0, 1, 2] ⟨rfl, rfl, rfl, rfl, rfl, rfl, rfl, rfl, rfl, rfl, rfl, trivial⟩ rfl rfl (Nat.le_refl _))
                      ·
                        refine OpE.alloc rfl hB rfl Tryz.zeroValue150 rfl ?_
                        intro g26
                        refine VA.all (rs := [10]) (by kernel_rfl) (by decide) ?_
                        refine ⟨⟨_, rfl, .inl rfl, ?_⟩, trivial⟩
                        refine OpE.callH (rest := [_]) rfl hB rfl Tryz.call136 rfl rfl (plan_run (K := fun a h => h = bxE o a 28 3 g7 g25) (a := 0) hiq Tryz.call138 (prom_does (by omega)) rfl) (List.Perm.refl _) (fun _ _ => ⟨by decide, trivial⟩) ?_
                        rintro _ _ ⟨_, e1, e2, rfl, rfl, rfl⟩
                        refine VA.le _ (Le.drop 2) ?_
                        refine VA.all (rs := [12]) (by kernel_rfl) (by decide) ?_
                        refine ⟨⟨_, rfl, .inl rfl, ?_⟩, trivial⟩
                        refine OpE.store (i := 2) rfl hB rfl Tryz.sizeOf150 rfl rfl rfl rfl rfl rfl (Nle rfl) (⟨by decide, trivial⟩) ?_
                        refine VA.done (by kernel_rfl) ?_
                        exact Exists.intro (g26) (Le.mk hB [0, 1, 2] ⟨rfl, rfl, rfl, rfl, rfl, rfl, rfl, rfl, rfl, rfl, rfl, trivial⟩ rfl rfl (Nat.le_refl _))
                    ·
                      refine OpE.alloc rfl hB rfl Tryz.zeroValue150 rfl ?_
                      intro g26
                      refine VA.all (rs := [7]) (by kernel_rfl) (by decide) ?_
                      refine ⟨⟨_, rfl, .inl rfl, ?_⟩, trivial⟩
                      refine OpE.callH (rest := [_, _, _]) rfl hB rfl Tryz.call137 rfl rfl (slices_InsertI (p := l) (x := (o.length : Int)) (k := q) (by omega) (by omega)) (perm_mid) (fun _ _ => ⟨by decide, trivial⟩) ?_
                      rintro _ _ ⟨u83, rfl, rfl⟩
                      refine VA.le _ (Le.rowI (t := 83) (i := 0) (xs := insL l q o.length) hB hnew rfl rfl (by rw [insL_len (by omega)])) ?_
                      refine VA.all (rs := [10]) (by kernel_rfl) (by decide) ?_
                      refine ⟨⟨_, rfl, .inl rfl, ?_⟩, trivial⟩
                      refine OpE.callH (rest := [_]) rfl hB rfl Tryz.call136 rfl rfl (plan_run (K := fun a h => h = bxE o a 28 3 g7 g25) (a := 0) hiq Tryz.call138 (prom_does (by omega)) rfl) (List.Perm.refl _) (fun _ _ => ⟨by decide, trivial⟩) ?_
                      rintro _ _ ⟨_, e1, e2, rfl, rfl, rfl⟩
                      refine VA.le _ (Le.drop 2) ?_
                      refine VA.all (rs := [12]) (by kernel_rfl) (by decide) ?_
                      refine ⟨⟨_, rfl, .inl rfl, ?_⟩, trivial⟩
                      refine OpE.store (i := 2) rfl hB rfl Tryz.sizeOf150 rfl rfl rfl rfl rfl rfl (Nle rfl) (⟨by decide, trivial⟩) ?_
                      refine VA.done (by kernel_rfl) ?_
                      exact Exists.intro (g26) (Le.mk hB [0, 1, 2] ⟨rfl, rfl, rfl, rfl, rfl, rfl, rfl, rfl, rfl, rfl, rfl, trivial⟩ rfl rfl (Nat.le_refl _))
                  ·
                    refine OpE.alloc rfl hB rfl Tryz.zeroValue150 rfl ?_
                    intro g26
                    refine VA.all (rs := [2]) (by kernel_rfl) (by decide) ?_
                    refine ⟨⟨_, rfl, .inl rfl, ?_⟩, trivial⟩
                    refine OpE.callR rfl hB rfl Tryz.call120 (slices_Clone_R (by omega)) (ArgsP.cons (ArgP.ev rfl) (ArgsP.nil)) ?_
                    intro u78
                    refine VA.all (rs := [7]) (by kernel_rfl) (by decide) ?_
                    refine ⟨⟨_, rfl, .inl rfl, ?_⟩, trivial⟩
                    refine OpE.callH (rest := [_, _, _]) rfl hB rfl Tryz.call137 rfl rfl (slices_InsertI (p := l) (x := (o.length : Int)) (k := q) (by omega) (by omega)) (List.perm_append_comm (l₁ := [_, _, _]) (l₂ := [_])) (fun _ _ => ⟨by decide, trivial⟩) ?_
                    rintro _ _ ⟨u83, rfl, rfl⟩
                    refine VA.le _ (Le.rowI (t := 83) (i := 0) (xs := insL l q o.length) hB hnew rfl rfl (by rw [insL_len (by omega)])) ?_
                    refine VA.all (rs := [10]) (by kernel_rfl) (by decide) ?_
                    refine ⟨⟨_, rfl, .inl rfl, ?_⟩, trivial⟩
                    refine OpE.callH (rest := [_]) rfl hB rfl Tryz.call136 rfl rfl (plan_run (K := fun a h => h = bxE o a 28 3 g7 g25) (a := 0) hiq Tryz.call138 (prom_does (by omega)) rfl) (List.Perm.refl _) (fun _ _ => ⟨by decide, trivial⟩) ?_
                    rintro _ _ ⟨_, e1, e2, rfl, rfl, rfl⟩
                    refine VA.le _ (Le.drop 2) ?_
                    refine VA.all (rs := [12]) (by kernel_rfl) (by decide) ?_
                    refine ⟨⟨_, rfl, .inl rfl, ?_⟩, trivial⟩
                    refine OpE.store (i := 2) rfl hB rfl Tryz.sizeOf150 rfl rfl rfl rfl rfl rfl (Nle rfl) (⟨by decide, trivial⟩) ?_
                    refine VA.done (by kernel_rfl) ?_
                    exact Exists.intro (g26) (Le.mk hB [0, 1, 2] ⟨rfl, rfl, rfl, rfl, rfl, rfl, rfl, rfl, rfl, rfl, rfl, trivial⟩ rfl rfl (Nat.le_refl _))
                ·
                  refine OpE.alloc rfl hB rfl Tryz.zeroValue150 rfl ?_
                  intro g26
                  refine VA.all (rs := [2, 6]) (by kernel_rfl) (by decide) ?_
                  refine ⟨⟨_, rfl, .inl rfl, ?_⟩, ⟨_, rfl, .inl rfl, ?_⟩, trivial⟩
                  ·
                    refine OpE.callR rfl hB rfl Tryz.call120 (slices_Clone_R (by omega)) (ArgsP.cons (ArgP.ev rfl) (ArgsP.nil)) ?_
                    intro u78
                    refine VA.all (rs := [6]) (by kernel_rfl) (by decide) ?_
                    refine ⟨⟨_, rfl, .inl rfl, ?_⟩, trivial⟩
                    refine OpE.buildSlice (zc := #[.int .i64 0]) rfl hB rfl Tryz.underlying22 Tryz.sizeOf3 Tryz.zeroValue3 (by decide) (by decide) (by kernel_rfl) rfl rfl ?_
                    refine VA.le _ (Le.lits (t := 82) (xs := [(o.length : Int)]) rfl rfl) ?_
                    refine VA.all (rs := [7]) (by kernel_rfl) (by decide) ?_
                    refine ⟨⟨_, rfl, .inl rfl, ?_⟩, trivial⟩
                    refine OpE.callH (rest := [_, _, _]) rfl hB rfl Tryz.call137 rfl rfl (slices_InsertI (p := l) (x := (o.length : Int)) (k := q) (by omega) (by omega)) (List.perm_append_comm (l₁ := [_, _, _]) (l₂ := [_])) (fun _ _ => ⟨by decide, trivial⟩) ?_
                    rintro _ _ ⟨u83, rfl, rfl⟩
                    refine VA.le _ (Le.rowI (t := 83) (i := 0) (xs := insL l q o.length) hB hnew rfl rfl (by rw [insL_len (by omega)])) ?_
                    refine VA.all (rs := [10]) (by kernel_rfl) (by decide) ?_
                    refine ⟨⟨_, rfl, .inl rfl, ?_⟩, trivial⟩
                    refine OpE.callH (rest := [_]) rfl hB rfl Tryz.call136 rfl rfl (plan_run (K := fun a h => h = bxE o a 28 3 g7 g25) (a := 0) hiq Tryz.call138 (prom_does (by omega)) rfl) (List.Perm.refl _) (fun _ _ => ⟨by decide, trivial⟩) ?_
                    rintro _ _ ⟨_, e1, e2, rfl, rfl, rfl⟩
                    refine VA.le _ (Le.drop 2) ?_
                    refine VA.all (rs := [12]) (by kernel_rfl) (by decide) ?_
                    refine ⟨⟨_, rfl, .inl rfl, ?_⟩, trivial⟩
                    refine OpE.store (i := 2) rfl hB rfl Tryz.sizeOf150 rfl rfl rfl rfl rfl rfl (Nle rfl) (⟨by decide, trivial⟩) ?_
                    refine VA.done (by kernel_rfl) ?_
                    exact Exists.intro (g26) (Le.mk hB [0, 1, 2] ⟨rfl, rfl, rfl, rfl, rfl, rfl, rfl, rfl, rfl, rfl, rfl, trivial⟩ rfl rfl (Nat.le_refl _))
                  ·
                    refine OpE.buildSlice (zc := #[.int .i64 0]) rfl hB rfl Tryz.underlying22 Tryz.sizeOf3 Tryz.zeroValue3 (by decide) (by decide) (by kernel_rfl) rfl rfl ?_
                    refine VA.le _ (Le.lits (t := 82) (xs := [(o.length : Int)]) rfl rfl) ?_
                    refine VA.all (rs := [2]) (by kernel_rfl) (by decide) ?_
                    refine ⟨⟨_, rfl, .inl rfl, ?_⟩, trivial⟩
                    refine OpE.callR rfl hB rfl Tryz.call120 (slices_Clone_R (by omega)) (ArgsP.cons (ArgP.ev rfl) (ArgsP.nil)) ?_
                    intro u78
                    refine VA.all (rs := [7]) (by kernel_rfl) (by decide) ?_
                    refine ⟨⟨_, rfl, .inl rfl, ?_⟩, trivial⟩
                    refine OpE.callH (rest := [_, _, _]) rfl hB rfl Tryz.call137 rfl rfl (slices_InsertI (p := l) (x := (o.length : Int)) (k := q) (by omega) (by omega)) (List.perm_append_comm (l₁ := [_, _, _]) (l₂ := [_])) (fun _ _ => ⟨by decide, trivial⟩) ?_
                    rintro _ _ ⟨u83, rfl, rfl⟩
                    refine VA.le _ (Le.rowI (t := 83) (i := 0) (xs := insL l q o.length) hB hnew rfl rfl (by rw [insL_len (by omega)])) ?_
                    refine VA.all (rs := [10]) (by kernel_rfl) (by decide) ?_
                    refine ⟨⟨_, rfl, .inl rfl, ?_⟩, trivial⟩
                    refine OpE.callH (rest := [_]) rfl hB rfl Tryz.call136 rfl rfl (plan_run (K := fun a h => h = bxE o a 28 3 g7 g25) (a := 0) hiq Tryz.call138 (prom_does (by omega)) rfl) (List.Perm.refl _) (fun _ _ => ⟨by decide, trivial⟩) ?_
                    rintro _ _ ⟨_, e1, e2, rfl, rfl, rfl⟩
                    refine VA.le _ (Le.drop 2) ?_
                    refine VA.all (rs := [12]) (by kernel_rfl) (by decide) ?_
                    refine ⟨⟨_, rfl, .inl rfl, ?_⟩, trivial⟩
                    refine OpE.store (i := 2) rfl hB rfl Tryz.sizeOf150 rfl rfl rfl rfl rfl rfl (Nle rfl) (⟨by decide, trivial⟩) ?_
                    refine VA.done (by kernel_rfl) ?_
                    exact Exists.intro (g26) (Le.mk hB [0, 1, 2] ⟨rfl, rfl, rfl, rfl, rfl, rfl, rfl, rfl, rfl, rfl, rfl, trivial⟩ rfl rfl (Nat.le_refl _))
              ·
                rintro g26
                show VC _ _ _ _ ⟨[(2, avInts l), (3, avI start), (7, pt g7), (20, avI (lateZ p o l each start)), (21, .at_ 3 (schC p (o ++ [x]) each)), (22, avI (prS p o l start each x q).1), (23, avI (prS p o l start each x q).2), (25, pt g25), (26, pt g26), (72, avI ((l.length : Int) + 1)), (73, avI (q : Int))], [.box g7 ⟨[avL o], 28, 1⟩, .box g25 ⟨[avI (runA (stpE o.length) p (o ++ [x]) (insL l q o.length) start each 0 (insL l q o.length).length)], 3, 1⟩, .box g26 ⟨[avI (resP p (o ++ [x]) (insL l q o.length) start each (insL l q o.length).length).late, avI (resP p (o ++ [x]) (insL l q o.length) start each (insL l q o.length).length).many, avI (resP p (o ++ [x]) (insL l q o.length) start each (insL l q o.length).length).en], 150, 3⟩], 0⟩
                refine VC.seq ?_
                have hiq := hins q (by omega)
                have hend : runA (stpE o.length) p (o ++ [x]) (insL l q o.length) start each 0 (insL l q o.length).length = prE p o l start each x q := by rw [insL_len (by omega), runA_end hiq (by omega) hk.ord (l.length + 1) (Nat.le_refl _), if_pos (by omega)]
                refine VC.region ?_
                refine VO.mv rfl rfl rfl rfl ?_
                refine VO.val rfl rfl (OpV.lss rfl rfl rfl) ?_
                refine VO.mv rfl rfl rfl rfl ?_
                refine VO.opG rfl rfl rfl rfl (fun aK2b => ?_) (fun aK2b => ?_)
                · replace aK2b : _ = false := aK2b
                  have aK2 := aK2b
                  try simp only [qqT, qqF, qqN, qqM, qqL, qqE] at aK2
                  refine OpE.val (W := NoB) (OpV.fieldAddrO 0 rfl Tryz.underlying150 rfl rfl Tryz.sizeOf3 rfl) rfl ?_
                  refine VO.opY rfl rfl rfl rfl aK2b ?_
                  refine OpE.val (W := NoB) (OpV.load_own (i := 2) rfl hB Tryz.isAgg3 rfl rfl rfl (fun h => h)) rfl ?_
                  refine VO.le _ (Le.recast (t := 91) (y := avI (prL p o l start each x q)) rfl (fun w Z u h => h)) ?_
                  refine VO.opY rfl rfl rfl rfl aK2b ?_
                  refine OpE.val (W := NoB) (OpV.move (.inl rfl) rfl) rfl ?_
                  refine VO.opY rfl rfl rfl rfl aK2b ?_
                  refine OpE.val (W := NoB) (OpV.lss rfl rfl rfl) rfl ?_
                  refine VO.val rfl rfl (OpV.pickF rfl rfl rfl rfl aK2b) ?_
                  refine VO.mv rfl rfl rfl rfl ?_
                  refine VO.opG rfl rfl rfl rfl (fun aK3b => ?_) (fun aK3b => ?_)
                  · replace aK3b : _ = false := aK3b
                    have aK3 := aK3b
                    try simp only [qqT, qqF, qqN, qqM, qqL, qqE] at aK3
                    refine OpE.val (W := NoB) (OpV.fieldAddrO 0 rfl Tryz.underlying150 rfl rfl Tryz.sizeOf3 rfl) rfl ?_
                    refine VO.opY rfl rfl rfl rfl aK3b ?_
                    refine OpE.val (W := NoB) (OpV.load_own (i := 2) rfl hB Tryz.isAgg3 rfl rfl rfl (fun h => h)) rfl ?_
                    refine VO.le _ (Le.recast (t := 97) (y := avI (prL p o l start each x q)) rfl (fun w Z u h => h)) ?_
                    refine VO.opY rfl rfl rfl rfl aK3b ?_
                    refine OpE.val (W := NoB) (OpV.move (.inl rfl) rfl) rfl ?_
                    refine VO.opY rfl rfl rfl rfl aK3b ?_
                    refine OpE.val (W := NoB) (OpV.eql rfl rfl rfl) rfl ?_
                    refine VO.opY rfl rfl rfl rfl aK3b ?_
                    refine OpE.val (W := NoB) (OpV.move (.inl rfl) rfl) rfl ?_
                    refine VO.opG rfl rfl rfl rfl (fun aK4b => ?_) (fun aK4b => ?_)
                    · replace aK4b : _ = true := aK4b
                      have aK4 := aK4b
                      try simp only [qqT, qqF, qqN, qqM, qqL, qqE] at aK4
                      refine OpE.val (W := NoB) (OpV.load_own (i := 1) rfl hB Tryz.isAgg3 rfl rfl rfl (fun h => h)) rfl ?_
                      refine VO.le _ (Le.recast (t := 101) (y := avI (prE p o l start each x q)) rfl (fun w Z u h => by rw [hend] at h; exact h)) ?_
                      refine VO.opY rfl rfl rfl rfl aK4b ?_
                      refine OpE.val (W := NoB) (OpV.move (.inl rfl) rfl) rfl ?_
                      refine VO.opY rfl rfl rfl rfl aK4b ?_
                      refine OpE.val (W := NoB) (OpV.lss rfl rfl rfl) rfl ?_
                      refine VO.opY rfl rfl rfl rfl aK3b ?_
                      refine OpE.val (W := NoB) (OpV.pickT rfl rfl rfl rfl aK4b) rfl ?_
                      refine VO.val rfl rfl (OpV.pickF rfl rfl rfl rfl aK3b) ?_
                      refine VO.nil ?_
                      refine VC.cond rfl (fun aH5b => ?_) (fun aH5b => ?_)
                      · have aH5 := aH5b
                        try simp only [qqT, qqF, qqN, qqM, qqL, qqE] at aH5
                        refine VC.draw (fun _ => NoB) hB (by kernel_rfl) ?_
                        refine VA.take (i := 0) rfl (by kernel_rfl) (by kernel_rfl) (by kernel_rfl) rfl rfl (OpV.fieldAddrO 0 rfl Tryz.underlying150 rfl rfl Tryz.sizeOf3 rfl) ?_
                        refine VA.take (i := 1) rfl (by kernel_rfl) (by kernel_rfl) (by kernel_rfl) rfl rfl (OpV.load_own (i := 2) rfl hB Tryz.isAgg3 rfl rfl rfl Wi.not0) ?_
                        refine VA.le _ (Le.recast (t := 107) (y := avI (prL p o l start each x q)) rfl (fun w Z u h => h)) ?_
                        refine VA.take (i := 2) rfl (by kernel_rfl) (by kernel_rfl) (by kernel_rfl) rfl rfl (OpV.load_own (i := 1) rfl hB Tryz.isAgg3 rfl rfl rfl Wi.not0) ?_
                        refine VA.le _ (Le.recast (t := 108) (y := avI (prE p o l start each x q)) rfl (fun w Z u h => by rw [hend] at h; exact h)) ?_
                        refine VA.take (i := 3) rfl (by kernel_rfl) (by kernel_rfl) (by kernel_rfl) rfl rfl (OpV.move (.inr rfl) rfl) ?_
                        refine VA.take (i := 4) rfl (by kernel_rfl) (by kernel_rfl) (by kernel_rfl) rfl rfl (OpV.move (.inr rfl) rfl) ?_
                        refine VA.done (by kernel_rfl) ?_
                        refine VC.region ?_
                        refine VO.val rfl rfl (OpV.add rfl rfl rfl (by unfold fits; omega)) ?_
                        refine VO.mv rfl rfl rfl rfl ?_
                        refine VO.nil ?_
                        exact Exists.intro (⟨q + 1, by omega⟩) (And.intro (Le.mk hB [0] ⟨(by dsimp only; first | (rw [prS_t (by omega)]; rfl) | (rw [prS_f (by omega)]; rfl)), (by dsimp only; first | (rw [prS_t (by omega)]; rfl) | (rw [prS_f (by omega)]; rfl)), rfl, rfl, rfl, rfl, rfl, rfl, rfl, trivial⟩ rfl rfl (Nat.le_refl _)) (by first | omega | (show _ < _; omega) | (simp only []; omega)))
                      · have aH5 := aH5b
                        try simp only [qqT, qqF, qqN, qqM, qqL, qqE] at aH5
                        refine VC.skip ?_
                        refine VC.region ?_
                        refine VO.val rfl rfl (OpV.add rfl rfl rfl (by unfold fits; omega)) ?_
                        refine VO.mv rfl rfl rfl rfl ?_
                        refine VO.nil ?_
                        exact Exists.intro (⟨q + 1, by omega⟩) (And.intro (Le.mk hB [0] ⟨(by dsimp only; first | (rw [prS_t (by omega)]; rfl) | (rw [prS_f (by omega)]; rfl)), (by dsimp only; first | (rw [prS_t (by omega)]; rfl) | (rw [prS_f (by omega)]; rfl)), rfl, rfl, rfl, rfl, rfl, rfl, rfl, trivial⟩ rfl rfl (Nat.le_refl _)) (by first | omega | (show _ < _; omega) | (simp only []; omega)))
                    · replace aK4b : _ = false := aK4b
                      have aK4 := aK4b
                      try simp only [qqT, qqF, qqN, qqM, qqL, qqE] at aK4
                      refine VO.opX rfl rfl rfl rfl aK4b ?_
                      refine VO.opX rfl rfl rfl rfl aK4b ?_
                      refine VO.opY rfl rfl rfl rfl aK3b ?_
                      refine OpE.val (W := NoB) (OpV.pickF rfl rfl rfl rfl aK4b) rfl ?_
                      refine VO.val rfl rfl (OpV.pickF rfl rfl rfl rfl aK3b) ?_
                      refine VO.nil ?_
                      refine VC.condF rfl rfl ?_
                      refine VC.skip ?_
                      refine VC.region ?_
                      refine VO.val rfl rfl (OpV.add rfl rfl rfl (by unfold fits; omega)) ?_
                      refine VO.mv rfl rfl rfl rfl ?_
                      refine VO.nil ?_
                      exact Exists.intro (⟨q + 1, by omega⟩) (And.intro (Le.mk hB [0] ⟨(by dsimp only; first | (rw [prS_t (by omega)]; rfl) | (rw [prS_f (by omega)]; rfl)), (by dsimp only; first | (rw [prS_t (by omega)]; rfl) | (rw [prS_f (by omega)]; rfl)), rfl, rfl, rfl, rfl, rfl, rfl, rfl, trivial⟩ rfl rfl (Nat.le_refl _)) (by first | omega | (show _ < _; omega) | (simp only []; omega)))
                  · replace aK3b : _ = true := aK3b
                    have aK3 := aK3b
                    try simp only [qqT, qqF, qqN, qqM, qqL, qqE] at aK3
                    refine VO.opX rfl rfl rfl rfl aK3b ?_
                    refine VO.opX rfl rfl rfl rfl aK3b ?_
                    refine VO.opX rfl rfl rfl rfl aK3b ?_
                    refine VO.opX rfl rfl rfl rfl aK3b ?_
                    refine VO.opU rfl rfl rfl rfl ?_
                    refine VO.opU rfl rfl rfl rfl ?_
                    refine VO.opU rfl rfl rfl rfl ?_
                    refine VO.opX rfl rfl rfl rfl aK3b ?_
                    refine VO.val rfl rfl (OpV.pickT rfl rfl rfl rfl aK3b) ?_
                    refine VO.nil ?_
                    refine VC.condT rfl rfl ?_
                    refine VC.draw (fun _ => NoB) hB (by kernel_rfl) ?_
                    refine VA.take (i := 0) rfl (by kernel_rfl) (by kernel_rfl) (by kernel_rfl) rfl rfl (OpV.fieldAddrO 0 rfl Tryz.underlying150 rfl rfl Tryz.sizeOf3 rfl) ?_
                    refine VA.take (i := 1) rfl (by kernel_rfl) (by kernel_rfl) (by kernel_rfl) rfl rfl (OpV.load_own (i := 2) rfl hB Tryz.isAgg3 rfl rfl rfl Wi.not0) ?_
                    refine VA.le _ (Le.recast (t := 107) (y := avI (prL p o l start each x q)) rfl (fun w Z u h => h)) ?_
                    refine VA.take (i := 2) rfl (by kernel_rfl) (by kernel_rfl) (by kernel_rfl) rfl rfl (OpV.load_own (i := 1) rfl hB Tryz.isAgg3 rfl rfl rfl Wi.not0) ?_
                    refine VA.le _ (Le.recast (t := 108) (y := avI (prE p o l start each x q)) rfl (fun w Z u h => by rw [hend] at h; exact h)) ?_
                    refine VA.take (i := 3) rfl (by kernel_rfl) (by kernel_rfl) (by kernel_rfl) rfl rfl (OpV.move (.inr rfl) rfl) ?_
                    refine VA.take (i := 4) rfl (by kernel_rfl) (by kernel_rfl) (by kernel_rfl) rfl rfl (OpV.move (.inr rfl) rfl) ?_
                    refine VA.done (by kernel_rfl) ?_
                    refine VC.region ?_
                    refine VO.val rfl rfl (OpV.add rfl rfl rfl (by unfold fits; omega)) ?_
                    refine VO.mv rfl rfl rfl rfl ?_
                    refine VO.nil ?_
                    exact Exists.intro (⟨q + 1, by omega⟩) (And.intro (Le.mk hB [0] ⟨(by dsimp only; first | (rw [prS_t (by omega)]; rfl) | (rw [prS_f (by omega)]; rfl)), (by dsimp only; first | (rw [prS_t (by omega)]; rfl) | (rw [prS_f (by omega)]; rfl)), rfl, rfl, rfl, rfl, rfl, rfl, rfl, trivial⟩ rfl rfl (Nat.le_refl _)) (by first | omega | (show _ < _; omega) | (simp only []; omega)))
                · replace aK2b : _ = true := aK2b
                  have aK2 := aK2b
                  try simp only [qqT, qqF, qqN, qqM, qqL, qqE] at aK2
                  refine VO.opX rfl rfl rfl rfl aK2b ?_
                  refine VO.opX rfl rfl rfl rfl aK2b ?_
                  refine VO.opX rfl rfl rfl rfl aK2b ?_
                  refine VO.val rfl rfl (OpV.pickT rfl rfl rfl rfl aK2b) ?_
                  refine VO.mv rfl rfl rfl rfl ?_
                  refine VO.opX rfl rfl rfl rfl rfl ?_
                  refine VO.opX rfl rfl rfl rfl rfl ?_
                  refine VO.opX rfl rfl rfl rfl rfl ?_
                  refine VO.opX rfl rfl rfl rfl rfl ?_
                  refine VO.opX rfl rfl rfl rfl rfl ?_
                  refine VO.opU rfl rfl rfl rfl ?_
                  refine VO.opU rfl rfl rfl rfl ?_
                  refine VO.opU rfl rfl rfl rfl ?_
                  refine VO.opX rfl rfl rfl rfl rfl ?_
                  refine VO.val rfl rfl (OpV.pickT rfl rfl rfl rfl rfl) ?_
                  refine VO.nil ?_
                  refine VC.condT rfl rfl ?_
                  refine VC.draw (fun _ => NoB) hB (by kernel_rfl) ?_
                  refine VA.take (i := 0) rfl (by kernel_rfl) (by kernel_rfl) (by kernel_rfl) rfl rfl (OpV.fieldAddrO 0 rfl Tryz.underlying150 rfl rfl Tryz.sizeOf3 rfl) ?_
                  refine VA.take (i := 1) rfl (by kernel_rfl) (by kernel_rfl) (by kernel_rfl) rfl rfl (OpV.load_own (i := 2) rfl hB Tryz.isAgg3 rfl rfl rfl Wi.not0) ?_
                  refine VA.le _ (Le.recast (t := 107) (y := avI (prL p o l start each x q)) rfl (fun w Z u h => h)) ?_
                  refine VA.take (i := 2) rfl (by kernel_rfl) (by kernel_rfl) (by kernel_rfl) rfl rfl (OpV.load_own (i := 1) rfl hB Tryz.isAgg3 rfl rfl rfl Wi.not0) ?_
                  refine VA.le _ (Le.recast (t := 108) (y := avI (prE p o l start each x q)) rfl (fun w Z u h => by rw [hend] at h; exact h)) ?_
                  refine VA.take (i := 3) rfl (by kernel_rfl) (by kernel_rfl) (by kernel_rfl) rfl rfl (OpV.move (.inr rfl) rfl) ?_
                  refine VA.take (i := 4) rfl (by kernel_rfl) (by kernel_rfl) (by kernel_rfl) rfl rfl (OpV.move (.inr rfl) rfl) ?_
                  refine VA.done (by kernel_rfl) ?_
                  refine VC.region ?_
                  refine VO.val rfl rfl (OpV.add rfl rfl rfl (by unfold fits; omega)) ?_
                  refine VO.mv rfl rfl rfl rfl ?_
                  refine VO.nil ?_
                  exact Exists.intro (⟨q + 1, by omega⟩) (And.intro (Le.mk hB [0] ⟨(by dsimp only; first | (rw [prS_t (by omega)]; rfl) | (rw [prS_f (by omega)]; rfl)), (by dsimp only; first | (rw [prS_t (by omega)]; rfl) | (rw [prS_f (by omega)]; rfl)), rfl, rfl, rfl, rfl, rfl, rfl, rfl, trivial⟩ rfl rfl (Nat.le_refl _)) (by first | omega | (show _ < _; omega) | (simp only []; omega)))
            · have aH1 := aH1b
              try simp only [qqT, qqF, qqN, qqM, qqL, qqE] at aH1
              obtain rfl : q = l.length + 1 := by omega
              refine VC.exit ?_
              refine VC.seq ?_
              have hB1 : 0 ≤ lateZ p o l each start ∧ lateZ p o l each start ≤ 300 * 300000000000000 := by
                have := (hk.res l.length (Nat.le_refl _)).1
                unfold lateZ
                omega
              have hB2 : 0 ≤ (prS p o l start each x (l.length + 1)).1 ∧ (prS p o l start each x (l.length + 1)).1 ≤ 300 * 300000000000000 := by
                obtain ⟨k, hk1, hk2⟩ := prS_is (p := p) (o := o) (l := l) (s := start) (e := each) (x := x) (q := l.length + 1) (fun k hk' => ((hins k (by omega)).res _ (Nat.le_refl _)).1.1) (Nat.succ_pos _)
                have h1 := ((hins k (by omega)).res _ (Nat.le_refl _)).1
                have h2 := insL_len (l := l) (k := k) (n := o.length) (by omega)
                rw [hk2]
                show 0 ≤ prL p o l start each x k ∧ prL p o l start each x k ≤ _
                unfold prL
                omega
              refine VC.region ?_
              refine VO.mv rfl rfl rfl rfl ?_
              refine VO.mv rfl rfl rfl rfl ?_
              refine VO.mv rfl rfl rfl rfl ?_
              refine VO.val rfl rfl (OpV.sub rfl rfl rfl (by unfold fits; omega)) ?_
              refine VO.ma rfl rfl rfl rfl ?_
              refine VO.ma rfl rfl rfl rfl ?_
              refine VO.ma rfl rfl rfl rfl ?_
              refine VO.nil ?_
              refine VC.ret ?_
              exact Exists.intro _ (And.intro (RetV.three Tryz.results34 (ResV.tmp rfl) (ResV.tmp rfl) (ResV.tmp rfl)) (by rw [hY.1, hY.2, hE]))
          ·
            refine OpE.buildSlice (zc := #[.string ⟨#[]⟩, .string ⟨#[]⟩, .int .i64 0, .int .i64 0, .int .i64 0]) rfl hB rfl Tryz.underlying28 Tryz.sizeOf35 Tryz.zeroValue35 (by decide) (by decide) (by kernel_rfl) rfl rfl ?_
            refine VA.all (rs := [2]) (by kernel_rfl) (by decide) ?_
            refine ⟨⟨_, rfl, .inl rfl, ?_⟩, trivial⟩
            refine OpE.callR rfl hB rfl Tryz.call135 (slices_CloneO_R (by omega)) (ArgsP.cons (ArgP.ev rfl) (ArgsP.nil)) ?_
            intro u64
            refine VA.all (rs := [5]) (by kernel_rfl) (by decide) ?_
            refine ⟨⟨_, rfl, .inl rfl, ?_⟩, trivial⟩
            refine OpE.hap (fun hap => ?_)
            refine OpE.append1 (i := 3) rfl hB rfl Tryz.underlying28 (infoOf Tryz.t35 5 (by kernel_rfl) rfl rfl) rfl (by decide) (by decide) rfl rfl rfl rfl (rowL_snoc o x) (by omega) (fun g' hg => ⟨by decide, apart_ne hap (i := 3) (j := 1) hg rfl (by decide)⟩) ?_
            intro u67
            refine VA.le _ (Le.rowT (t := 67) (xs := o ++ [x]) (i := 3) hB hnew rfl rfl (by simp)) ?_
            refine VA.all (rs := [7]) (by kernel_rfl) (by decide) ?_
            refine ⟨⟨_, rfl, .inl rfl, ?_⟩, trivial⟩
            refine OpE.call rfl hB rfl Tryz.call114 rfl (plan_newScheduler hp hi0.pok hi0.ook hi0.has hi0.ea) ?_
            rintro _ rfl
            refine VA.take (i := 8) rfl (by kernel_rfl) (by kernel_rfl) (by kernel_rfl) rfl rfl (OpV.move (.inr rfl) rfl) ?_
            refine VA.done (by kernel_rfl) ?_
            refine VC.seq ?_
            clear hap
            refine VC.region ?_
            refine VO.ma rfl rfl rfl rfl ?_
            refine VO.ma rfl rfl rfl rfl ?_
            refine VO.nil ?_
            refine VC.seq ?_
            refine VC.sr ?_
            refine VO.mv rfl rfl rfl rfl ?_
            refine VO.val rfl rfl (OpV.len_im rfl Tryz.underlying22 rfl) ?_
            refine VO.val rfl rfl (OpV.add rfl rfl rfl (by unfold fits; omega)) ?_
            refine VO.mv rfl rfl rfl rfl ?_
            refine VO.nil ?_
            refine VC.block ?_
            refine VC.loopK [(2, _), (3, _), (7, _), (20, _), (21, _), (72, _)] ⟨rfl, rfl, rfl, rfl, rfl, rfl, trivial⟩ ({q : Nat // q ≤ l.length + 1}) (fun (iZ : {q : Nat // q ≤ l.length + 1}) => match iZ with | ⟨q, hq⟩ => [(22, avI (prS p o l start each x q).1), (23, avI (prS p o l start each x q).2), (73, avI (q : Int))]) (fun (iZ : {q : Nat // q ≤ l.length + 1}) => match iZ with | ⟨q, hq⟩ => [.box g7 ⟨[avL o], 28, 1⟩]) (fun (iZ : {q : Nat // q ≤ l.length + 1}) => match iZ with | ⟨q, hq⟩ => 0) (fun (iZ : {q : Nat // q ≤ l.length + 1}) => match iZ with | ⟨q, hq⟩ => l.length + 1 - q) ⟨0, Nat.zero_le _⟩ (Le.mk hB [0] ⟨rfl, rfl, rfl, rfl, rfl, rfl, rfl, rfl, rfl, trivial⟩ rfl rfl (Nat.le_refl _)) ?_
            rintro ⟨q, hq⟩
            show VC _ _ _ _ ⟨[(22, avI (prS p o l start each x q).1), (23, avI (prS p o l start each x q).2), (73, avI (q : Int))] ++ [(2, _), (3, _), (7, _), (20, _), (21, _), (72, _)], [.box g7 ⟨[avL o], 28, 1⟩], 0⟩
            refine VC.sr ?_
            refine VO.val rfl rfl (OpV.lss rfl rfl rfl) ?_
            refine VO.nil ?_
            refine VC.seq ?_
            refine VC.cond rfl (fun aH6b => ?_) (fun aH6b => ?_)
            · have aH6 := aH6b
              try simp only [qqT, qqF, qqN, qqM, qqL, qqE] at aH6
              refine VC.skip ?_
              refine VC.seq ?_
              refine VC.block ?_
              refine VC.sr ?_
              refine VO.mv rfl rfl rfl rfl ?_
              refine VO.ma rfl rfl rfl rfl ?_
              refine VO.nil ?_
              refine VC.sr ?_
              refine VO.op rfl (OpE.alloc rfl hB rfl Tryz.zeroValue3 rfl ?_)
              intro g25
              refine VO.op rfl (OpE.store (i := 1) rfl hB rfl Tryz.sizeOf3 rfl rfl rfl rfl rfl rfl (Nle rfl) trivial ?_)
              refine VO.nil ?_
              refine VC.joinI (Nat) (fun (iZ : Nat) => match iZ with | g26 => ⟨[(2, avInts l), (3, avI start), (7, pt g7), (20, avI (lateZ p o l each start)), (21, .at_ 3 (schC p (o ++ [x]) each)), (22, avI (prS p o l start each x q).1), (23, avI (prS p o l start each x q).2), (25, pt g25), (26, pt g26), (72, avI ((l.length : Int) + 1)), (73, avI (q : Int))], [.box g7 ⟨[avL o], 28, 1⟩, .box g25 ⟨[avI (runA (stpE o.length) p (o ++ [x]) (insL l q o.length) start each 0 (insL l q o.length).length)], 3, 1⟩, .box g26 ⟨[avI (resP p (o ++ [x]) (insL l q o.length) start each (insL l q o.length).length).late, avI (resP p (o ++ [x]) (insL l q o.length) start each (insL l q o.length).length).many, avI (resP p (o ++ [x]) (insL l q o.length) start each (insL l q o.length).length).en], 150, 3⟩], 0⟩) ?_ ?_
              ·
                have hiq := hins q (by omega)
                refine VC.draw (fun j b => j ∈ [7, 10, 12] ∧ True) hB (by kernel_rfl) ?_
                refine VA.take (i := 0) rfl (by kernel_rfl) (by kernel_rfl) (by kernel_rfl) rfl rfl (OpV.move (.inl rfl) rfl) ?_
                refine VA.take (i := 1) rfl (by kernel_rfl) (by kernel_rfl) (by kernel_rfl) rfl rfl (OpV.move (.inl rfl) rfl) ?_
                refine VA.take (i := 3) rfl (by kernel_rfl) (by kernel_rfl) (by kernel_rfl) rfl rfl (OpV.move (.inl rfl) rfl) ?_
                refine VA.takeT [4, 5, 6, 7, 10, 12] (i := 4) (by kernel_rfl) (by kernel_rfl) rfl (by kernel_rfl) (by kernel_rfl) (by kernel_rfl) rfl rfl (OpV.load_own (i := 0) rfl hB Tryz.isAgg28 rfl rfl rfl (fun ⟨j, h1, h2, _⟩ => by simp at h2; rcases h2 with rfl | rfl | rfl <;> simp at h1)) ?_
                refine VA.take (i := 5) rfl (by kernel_rfl) (by kernel_rfl) (by kernel_rfl) rfl rfl (OpV.len_im rfl Tryz.underlying28 rfl) ?_
                refine VA.take (i := 8) rfl (by kernel_rfl) (by kernel_rfl) (by kernel_rfl) rfl rfl (OpV.move (.inl rfl) rfl) ?_
                refine VA.take (i := 9) rfl (by kernel_rfl) (by kernel_rfl) (by kernel_rfl) rfl rfl (OpV.makeFunc2 rfl rfl rfl) ?_
                refine VA.all (rs := [2, 6, 11]) (by kernel_rfl) (by decide) ?_
                refine ⟨⟨_, rfl, .inl rfl, ?_⟩, ⟨_, rfl, .inl rfl, ?_⟩, ⟨_, rfl, .inl rfl, ?_⟩, trivial⟩
                ·
                  refine OpE.callR rfl hB rfl Tryz.call120 (slices_Clone_R (by omega)) (ArgsP.cons (ArgP.ev rfl) (ArgsP.nil)) ?_
                  intro u78
                  refine VA.all (rs := [6, 11]) (by kernel_rfl) (by decide) ?_
                  refine ⟨⟨_, rfl, .inl rfl, ?_⟩, ⟨_, rfl, .inl rfl, ?_⟩, trivial⟩
                  ·
                    refine OpE.buildSlice (zc := #[.int .i64 0]) rfl hB rfl Tryz.underlying22 Tryz.sizeOf3 Tryz.zeroValue3 (by decide) (by decide) (by kernel_rfl) rfl rfl ?_
                    refine VA.le _ (Le.lits (t := 82) (xs := [(o.length : Int)]) rfl rfl) ?_
                    refine VA.all (rs := [7, 11]) (by kernel_rfl) (by decide) ?_
                    refine ⟨⟨_, rfl, .inl rfl, ?_⟩, ⟨_, rfl, .inl rfl, ?_⟩, trivial⟩
                    ·
                      refine OpE.callH (rest := [_, _]) rfl hB rfl Tryz.call137 rfl rfl (slices_InsertI (p := l) (x := (o.length : Int)) (k := q) (by omega) (by omega)) (List.perm_append_comm (l₁ := [_, _]) (l₂ := [_])) (fun _ _ => ⟨by decide, trivial⟩) ?_
                      rintro _ _ ⟨u83, rfl, rfl⟩
                      refine VA.le _ (Le.rowI (t := 83) (i := 0) (xs := insL l q o.length) hB hnew rfl rfl (by rw [insL_len (by omega)])) ?_
                      refine VA.all (rs := [10, 11]) (by kernel_rfl) (by decide) ?_
                      refine ⟨⟨_, rfl, .inl rfl, ?_⟩, ⟨_, rfl, .inl rfl, ?_⟩, trivial⟩
                      ·
                        refine OpE.callH0 rfl hB rfl Tryz.call136 rfl rfl (plan_run (K := fun a h => h = bxE o a 28 3 g7 g25) (a := 0) hiq Tryz.call138 (prom_does (by omega)) rfl) (List.Perm.refl _) (fun _ _ => ⟨by decide, trivial⟩) ?_
                        rintro _ _ ⟨_, e1, e2, rfl, rfl, rfl⟩
                        refine VA.le _ (Le.drop 2) ?_
                        refine VA.all (rs := [11]) (by kernel_rfl) (by decide) ?_
                        refine ⟨⟨_, rfl, .inl rfl, ?_⟩, trivial⟩
                        refine OpE.alloc rfl hB rfl Tryz.zeroValue150 rfl ?_
                        intro g26
                        refine VA.all (rs := [12]) (by kernel_rfl) (by decide) ?_
                        refine ⟨⟨_, rfl, .inl rfl, ?_⟩, trivial⟩
                        refine OpE.store (i := 2) rfl hB rfl Tryz.sizeOf150 rfl rfl rfl rfl rfl rfl (Nle rfl) (⟨by decide, trivial⟩) ?_
                        refine VA.done (by kernel_rfl) ?_
                        exact Exists.intro (g26) (Le.mk hB [0, 1, 2] ⟨rfl, rfl, rfl, rfl, rfl, rfl, rfl, rfl, rfl, rfl, rfl, trivial⟩ rfl rfl (Nat.le_refl _))
                      ·
                        refine OpE.alloc rfl hB rfl Tryz.zeroValue150 rfl ?_
                        intro g26
                        refine VA.all (rs := [10]) (by kernel_rfl) (by decide) ?_
                        refine ⟨⟨_, rfl, .inl rfl, ?_⟩, trivial⟩
                        refine OpE.callH (rest := [_]) rfl hB rfl Tryz.call136 rfl rfl (plan_run (K := fun a h => h = bxE o a 28 3 g7 g25) (a := 0) hiq Tryz.call138 (prom_does (by omega)) rfl) (List.Perm.refl _) (fun _ _ => ⟨by decide, trivial⟩) ?_
                        rintro _ _ ⟨_, e1, e2, rfl, rfl, rfl⟩
                        refine VA.le _ (Le.drop 2) ?_
                        refine VA.all (rs := [12]) (by kernel_rfl) (by decide) ?_
                        refine ⟨⟨_, rfl, .inl rfl, ?_⟩, trivial⟩
                        refine OpE.store (i := 2) rfl hB rfl Tryz.sizeOf150 rfl rfl rfl rfl rfl rfl (Nle rfl) (⟨by decide, trivial⟩) ?_
                        refine VA.done (by kernel_rfl) ?_
                        exact Exists.intro (g26) (Le.mk hB [0, 1, 2] ⟨rfl, rfl, rfl, rfl, rfl, rfl, rfl, rfl, rfl, rfl, rfl, trivial⟩ rfl rfl (Nat.le_refl _))
                    ·
                      refine OpE.alloc rfl hB rfl Tryz.zeroValue150 rfl ?_
                      intro g26
                      refine VA.all (rs := [7]) (by kernel_rfl) (by decide) ?_
                      refine ⟨⟨_, rfl, .inl rfl, ?_⟩, trivial⟩
                      refine OpE.callH (rest := [_, _, _]) rfl hB rfl Tryz.call137 rfl rfl (slices_InsertI (p := l) (x := (o.length : Int)) (k := q) (by omega) (by omega)) (perm_mid) (fun _ _ => ⟨by decide, trivial⟩) ?_
                      rintro _ _ ⟨u83, rfl, rfl⟩
                      refine VA.le _ (Le.rowI (t := 83) (i := 0) (xs := insL l q o.length) hB hnew rfl rfl (by rw [insL_len (by omega)])) ?_
                      refine VA.all (rs := [10]) (by kernel_rfl) (by decide) ?_
                      refine ⟨⟨_, rfl, .inl rfl, ?_⟩, trivial⟩
                      refine OpE.callH (rest := [_]) rfl hB rfl Tryz.call136 rfl rfl (plan_run (K := fun a h => h = bxE o a 28 3 g7 g25) (a := 0) hiq Tryz.call138 (prom_does (by omega)) rfl) (List.Perm.refl _) (fun _ _ => ⟨by decide, trivial⟩) ?_
                      rintro _ _ ⟨_, e1, e2, rfl, rfl, rfl⟩
                      refine VA.le _ (Le.drop 2) ?_
                      refine VA.all (rs := [12]) (by kernel_rfl) (by decide) ?_
                      refine ⟨⟨_, rfl, .inl rfl, ?_⟩, trivial⟩
                      refine OpE.store (i := 2) rfl hB rfl Tryz.sizeOf150 rfl rfl rfl rfl rfl rfl (Nle rfl) (⟨by decide, trivial⟩) ?_
                      refine VA.done (by kernel_rfl) ?_
                      exact Exists.intro (g26) (Le.mk hB [0, 1, 2] ⟨rfl, rfl, rfl, rfl, rfl, rfl, rfl, rfl, rfl, rfl, rfl, trivial⟩ rfl rfl (Nat.le_refl _))
                  ·
                    refine OpE.alloc rfl hB rfl Tryz.zeroValue150 rfl ?_
                    intro g26
                    refine VA.all (rs := [6]) (by kernel_rfl) (by decide) ?_
                    refine ⟨⟨_, rfl, .inl rfl, ?_⟩, trivial⟩
                    refine OpE.buildSlice (zc := #[.int .i64 0]) rfl hB rfl Tryz.underlying22 Tryz.sizeOf3 Tryz.zeroValue3 (by decide) (by decide) (by kernel_rfl) rfl rfl ?_
                    refine VA.le _ (Le.lits (t := 82) (xs := [(o.length : Int)]) rfl rfl) ?_
                    refine VA.all (rs := [7]) (by kernel_rfl) (by decide) ?_
                    refine ⟨⟨_, rfl, .inl rfl, ?_⟩, trivial⟩
                    refine OpE.callH (rest := [_, _, _]) rfl hB rfl Tryz.call137 rfl rfl (slices_InsertI (p := l) (x := (o.length : Int)) (k := q) (by omega) (by omega)) (perm_mid) (fun _ _ => ⟨by decide, trivial⟩) ?_
                    rintro _ _ ⟨u83, rfl, rfl⟩
                    refine VA.le _ (Le.rowI (t := 83) (i := 0) (xs := insL l q o.length) hB hnew rfl rfl (by rw [insL_len (by omega)])) ?_
                    refine VA.all (rs := [10]) (by kernel_rfl) (by decide) ?_
                    refine ⟨⟨_, rfl, .inl rfl, ?_⟩, trivial⟩
                    refine OpE.callH (rest := [_]) rfl hB rfl Tryz.call136 rfl rfl (plan_run (K := fun a h => h = bxE o a 28 3 g7 g25) (a := 0) hiq Tryz.call138 (prom_does (by omega)) rfl) (List.Perm.refl _) (fun _ _ => ⟨by decide, trivial⟩) ?_
                    rintro _ _ ⟨_, e1, e2, rfl, rfl, rfl⟩
                    refine VA.le _ (Le.drop 2) ?_
                    refine VA.all (rs := [12]) (by kernel_rfl) (by decide) ?_
                    refine ⟨⟨_, rfl, .inl rfl, ?_⟩, trivial⟩
                    refine OpE.store (i := 2) rfl hB rfl Tryz.sizeOf150 rfl rfl rfl rfl rfl rfl (Nle rfl) (⟨by decide, trivial⟩) ?_
                    refine VA.done (by kernel_rfl) ?_
                    exact Exists.intro (g26) (Le.mk hB [0, 1, 2] ⟨rfl, rfl, rfl, rfl, rfl, rfl, rfl, rfl, rfl, rfl, rfl, trivial⟩ rfl rfl (Nat.le_refl _))
                ·
                  refine OpE.buildSlice (zc := #[.int .i64 0]) rfl hB rfl Tryz.underlying22 Tryz.sizeOf3 Tryz.zeroValue3 (by decide) (by decide) (by kernel_rfl) rfl rfl ?_
                  refine VA.le _ (Le.lits (t := 82) (xs := [(o.length : Int)]) rfl rfl) ?_
                  refine VA.all (rs := [2, 11]) (by kernel_rfl) (by decide) ?_
                  refine ⟨⟨_, rfl, .inl rfl, ?_⟩, ⟨_, rfl, .inl rfl, ?_⟩, trivial⟩
                  ·
                    refine OpE.callR rfl hB rfl Tryz.call120 (slices_Clone_R (by omega)) (ArgsP.cons (ArgP.ev rfl) (ArgsP.nil)) ?_
                    intro u78
                    refine VA.all (rs := [7, 11]) (by kernel_rfl) (by decide) ?_
                    refine ⟨⟨_, rfl, .inl rfl, ?_⟩, ⟨_, rfl, .inl rfl, ?_⟩, trivial⟩
                    ·
                      refine OpE.callH (rest := [_, _]) rfl hB rfl Tryz.call137 rfl rfl (slices_InsertI (p := l) (x := (o.length : Int)) (k := q) (by omega) (by omega)) (List.perm_append_comm (l₁ := [_, _]) (l₂ := [_])) (fun _ _ => ⟨by decide, trivial⟩) ?_
                      rintro _ _ ⟨u83, rfl, rfl⟩
                      refine VA.le _ (Le.rowI (t := 83) (i := 0) (xs := insL l q o.length) hB hnew rfl rfl (by rw [insL_len (by omega)])) ?_
                      refine VA.all (rs := [10, 11]) (by kernel_rfl) (by decide) ?_
                      refine ⟨⟨_, rfl, .inl rfl, ?_⟩, ⟨_, rfl, .inl rfl, ?_⟩, trivial⟩
                      ·
                        refine OpE.callH0 rfl hB rfl Tryz.call136 rfl rfl (plan_run (K := fun a h => h = bxE o a 28 3 g7 g25) (a := 0) hiq Tryz.call138 (prom_does (by omega)) rfl) (List.Perm.refl _) (fun _ _ => ⟨by decide, trivial⟩) ?_
                        rintro _ _ ⟨_, e1, e2, rfl, rfl, rfl⟩
                        refine VA.le _ (Le.drop 2) ?_
                        refine VA.all (rs := [11]) (by kernel_rfl) (by decide) ?_
                        refine ⟨⟨_, rfl, .inl rfl, ?_⟩, trivial⟩
                        refine OpE.alloc rfl hB rfl Tryz.zeroValue150 rfl ?_
                        intro g26
                        refine VA.all (rs := [12]) (by kernel_rfl) (by decide) ?_
                        refine ⟨⟨_, rfl, .inl rfl, ?_⟩, trivial⟩
                        refine OpE.store (i := 2) rfl hB rfl Tryz.sizeOf150 rfl rfl rfl rfl rfl rfl (Nle rfl) (⟨by decide, trivial⟩) ?_
                        refine VA.done (by kernel_rfl) ?_
                        exact Exists.intro (g26) (Le.mk hB [0, 1, 2] ⟨rfl, rfl, rfl, rfl, rfl, rfl, rfl, rfl, rfl, rfl, rfl, trivial⟩ rfl rfl (Nat.le_refl _))
                      ·
                        refine OpE.alloc rfl hB rfl Tryz.zeroValue150 rfl ?_
                        intro g26
                        refine VA.all (rs := [10]) (by kernel_rfl) (by decide) ?_
                        refine ⟨⟨_, rfl, .inl rfl, ?_⟩, trivial⟩
                        refine OpE.callH (rest := [_]) rfl hB rfl Tryz.call136 rfl rfl (plan_run (K := fun a h => h = bxE o a 28 3 g7 g25) (a := 0) hiq Tryz.call138 (prom_does (by omega)) rfl) (List.Perm.refl _) (fun _ _ => ⟨by decide, trivial⟩) ?_
                        rintro _ _ ⟨_, e1, e2, rfl, rfl, rfl⟩
                        refine VA.le _ (Le.drop 2) ?_
                        refine VA.all (rs := [12]) (by kernel_rfl) (by decide) ?_
                        refine ⟨⟨_, rfl, .inl rfl, ?_⟩, trivial⟩
                        refine OpE.store (i := 2) rfl hB rfl Tryz.sizeOf150 rfl rfl rfl rfl rfl rfl (Nle rfl) (⟨by decide, trivial⟩) ?_
                        refine VA.done (by kernel_rfl) ?_
                        exact Exists.intro (g26) (Le.mk hB [0, 1, 2] ⟨rfl, rfl, rfl, rfl, rfl, rfl, rfl, rfl, rfl, rfl, rfl, trivial⟩ rfl rfl (Nat.le_refl _))
                    ·
                      refine OpE.alloc rfl hB rfl Tryz.zeroValue150 rfl ?_
                      intro g26
                      refine VA.all (rs := [7]) (by kernel_rfl) (by decide) ?_
                      refine ⟨⟨_, rfl, .inl rfl, ?_⟩, trivial⟩
                      refine OpE.callH (rest := [_, _, _]) rfl hB rfl Tryz.call137 rfl rfl (slices_InsertI (p := l) (x := (o.length : Int)) (k := q) (by omega) (by omega)) (perm_mid) (fun _ _ => ⟨by decide, trivial⟩) ?_
                      rintro _ _ ⟨u83, rfl, rfl⟩
                      refine VA.le _ (Le.rowI (t := 83) (i := 0) (xs := insL l q o.length) hB hnew rfl rfl (by rw [insL_len (by omega)])) ?_
                      refine VA.all (rs := [10]) (by kernel_rfl) (by decide) ?_
                      refine ⟨⟨_, rfl, .inl rfl, ?_⟩, trivial⟩
                      refine OpE.callH (rest := [_]) rfl hB rfl Tryz.call136 rfl rfl (plan_run (K := fun a h => h = bxE o a 28 3 g7 g25) (a := 0) hiq Tryz.call138 (prom_does (by omega)) rfl) (List.Perm.refl _) (fun _ _ => ⟨by decide, trivial⟩) ?_
                      rintro _ _ ⟨_, e1, e2, rfl, rfl, rfl⟩
                      refine VA.le _ (Le.drop 2) ?_
                      refine VA.all (rs := [12]) (by kernel_rfl) (by decide) ?_
                      refine ⟨⟨_, rfl, .inl rfl, ?_⟩, trivial⟩
                      refine OpE.store (i := 2) rfl hB rfl Tryz.sizeOf150 rfl rfl rfl rfl rfl rfl (Nle rfl) (⟨by decide, trivial⟩) ?_
                      refine VA.done (by kernel_rfl) ?_
                      exact Exists.intro (g26) (Le.mk hB [0, 1, 2] ⟨rfl, rfl, rfl, rfl, rfl, rfl, rfl, rfl, rfl, rfl, rfl, trivial⟩ rfl rfl (Nat.le_refl _))
                  ·
                    refine OpE.alloc rfl hB rfl Tryz.zeroValue150 rfl ?_
                    intro g26
                    refine VA.all (rs := [2]) (by kernel_rfl) (by decide) ?_
                    refine ⟨⟨_, rfl, .inl rfl, ?_⟩, trivial⟩
                    refine OpE.callR rfl hB rfl Tryz.call120 (slices_Clone_R (by omega)) (ArgsP.cons (ArgP.ev rfl) (ArgsP.nil)) ?_
                    intro u78
                    refine VA.all (rs := [7]) (by kernel_rfl) (by decide) ?_
                    refine ⟨⟨_, rfl, .inl rfl, ?_⟩, trivial⟩
                    refine OpE.callH (rest := [_, _, _]) rfl hB rfl Tryz.call137 rfl rfl (slices_InsertI (p := l) (x := (o.length : Int)) (k := q) (by omega) (by omega)) (List.perm_append_comm (l₁ := [_, _, _]) (l₂ := [_])) (fun _ _ => ⟨by decide, trivial⟩) ?_
                    rintro _ _ ⟨u83, rfl, rfl⟩
                    refine VA.le _ (Le.rowI (t := 83) (i := 0) (xs := insL l q o.length) hB hnew rfl rfl (by rw [insL_len (by omega)])) ?_
                    refine VA.all (rs := [10]) (by kernel_rfl) (by decide) ?_
                    refine ⟨⟨_, rfl, .inl rfl, ?_⟩, trivial⟩
                    refine OpE.callH (rest := [_]) rfl hB rfl Tryz.call136 rfl rfl (plan_run (K := fun a h => h = bxE o a 28 3 g7 g25) (a := 0) hiq Tryz.call138 (prom_does (by omega)) rfl) (List.Perm.refl _) (fun _ _ => ⟨by decide, trivial⟩) ?_
                    rintro _ _ ⟨_, e1, e2, rfl, rfl, rfl⟩
                    refine VA.le _ (Le.drop 2) ?_
                    refine VA.all (rs := [12]) (by kernel_rfl) (by decide) ?_
                    refine ⟨⟨_, rfl, .inl rfl, ?_⟩, trivial⟩
                    refine OpE.store (i := 2) rfl hB rfl Tryz.sizeOf150 rfl rfl rfl rfl rfl rfl (Nle rfl) (⟨by decide, trivial⟩) ?_
                    refine VA.done (by kernel_rfl) ?_
                    exact Exists.intro (g26) (Le.mk hB [0, 1, 2] ⟨rfl, rfl, rfl, rfl, rfl, rfl, rfl, rfl, rfl, rfl, rfl, trivial⟩ rfl rfl (Nat.le_refl _))
                ·
                  refine OpE.alloc rfl hB rfl Tryz.zeroValue150 rfl ?_
                  intro g26
                  refine VA.all (rs := [2, 6]) (by kernel_rfl) (by decide) ?_
                  refine ⟨⟨_, rfl, .inl rfl, ?_⟩, ⟨_, rfl, .inl rfl, ?_⟩, trivial⟩
                  ·
                    refine OpE.callR rfl hB rfl Tryz.call120 (slices_Clone_R (by omega)) (ArgsP.cons (ArgP.ev rfl) (ArgsP.nil)) ?_
                    intro u78
                    refine VA.all (rs := [6]) (by kernel_rfl) (by decide) ?_
                    refine ⟨⟨_, rfl, .inl rfl, ?_⟩, trivial⟩
                    refine OpE.buildSlice (zc := #[.int .i64 0]) rfl hB rfl Tryz.underlying22 Tryz.sizeOf3 Tryz.zeroValue3 (by decide) (by decide) (by kernel_rfl) rfl rfl ?_
                    refine VA.le _ (Le.lits (t := 82) (xs := [(o.length : Int)]) rfl rfl) ?_
                    refine VA.all (rs := [7]) (by kernel_rfl) (by decide) ?_
                    refine ⟨⟨_, rfl, .inl rfl, ?_⟩, trivial⟩
                    refine OpE.callH (rest := [_, _, _]) rfl hB rfl Tryz.call137 rfl rfl (slices_InsertI (p := l) (x := (o.length : Int)) (k := q) (by omega) (by omega)) (List.perm_append_comm (l₁ := [_, _, _]) (l₂ := [_])) (fun _ _ => ⟨by decide, trivial⟩) ?_
                    rintro _ _ ⟨u83, rfl, rfl⟩
                    refine VA.le _ (Le.rowI (t := 83) (i := 0) (xs := insL l q o.length) hB hnew rfl rfl (by rw [insL_len (by omega)])) ?_
                    refine VA.all (rs := [10]) (by kernel_rfl) (by decide) ?_
                    refine ⟨⟨_, rfl, .inl rfl, ?_⟩, trivial⟩
                    refine OpE.callH (rest := [_]) rfl hB rfl Tryz.call136 rfl rfl (plan_run (K := fun a h => h = bxE o a 28 3 g7 g25) (a := 0) hiq Tryz.call138 (prom_does (by omega)) rfl) (List.Perm.refl _) (fun _ _ => ⟨by decide, trivial⟩) ?_
                    rintro _ _ ⟨_, e1, e2, rfl, rfl, rfl⟩
                    refine VA.le _ (Le.drop 2) ?_
                    refine VA.all (rs := [12]) (by kernel_rfl) (by decide) ?_
                    refine ⟨⟨_, rfl, .inl rfl, ?_⟩, trivial⟩
                    refine OpE.store (i := 2) rfl hB rfl Tryz.sizeOf150 rfl rfl rfl rfl rfl rfl (Nle rfl) (⟨by decide, trivial⟩) ?_
                    refine VA.done (by kernel_rfl) ?_
                    exact Exists.intro (g26) (Le.mk hB [0, 1, 2] ⟨rfl, rfl, rfl, rfl, rfl, rfl, rfl, rfl, rfl, rfl, rfl, trivial⟩ rfl rfl (Nat.le_refl _))
                  ·
                    refine OpE.buildSlice (zc := #[.int .i64 0]) rfl hB rfl Tryz.underlying22 Tryz.sizeOf3 Tryz.zeroValue3 (by decide) (by decide) (by kernel_rfl) rfl rfl ?_
                    refine VA.le _ (Le.lits (t := 82) (xs := [(o.length : Int)]) rfl rfl) ?_
                    refine VA.all (rs := [2]) (by kernel_rfl) (by decide) ?_
                    refine ⟨⟨_, rfl, .inl rfl, ?_⟩, trivial⟩
                    refine OpE.callR rfl hB rfl Tryz.call120 (slices_Clone_R (by omega)) (ArgsP.cons (ArgP.ev rfl) (ArgsP.nil)) ?_
                    intro u78
                    refine VA.all (rs := [7]) (by kernel_rfl) (by decide) ?_
                    refine ⟨⟨_, rfl, .inl rfl, ?_⟩, trivial⟩
                    refine OpE.callH (rest := [_, _, _]) rfl hB rfl Tryz.call137 rfl rfl (slices_InsertI (p := l) (x := (o.length : Int)) (k := q) (by omega) (by omega)) (List.perm_append_comm (l₁ := [_, _, _]) (l₂ := [_])) (fun _ _ => ⟨by decide, trivial⟩) ?_
                    rintro _ _ ⟨u83, rfl, rfl⟩
                    refine VA.le _ (Le.rowI (t := 83) (i := 0) (xs := insL l q o.length) hB hnew rfl rfl (by rw [insL_len (by omega)])) ?_
                    refine VA.all (rs := [10]) (by kernel_rfl) (by decide) ?_
                    refine ⟨⟨_, rfl, .inl rfl, ?_⟩, trivial⟩
                    refine OpE.callH (rest := [_]) rfl hB rfl Tryz.call136 rfl rfl (plan_run (K := fun a h => h = bxE o a 28 3 g7 g25) (a := 0) hiq Tryz.call138 (prom_does (by omega)) rfl) (List.Perm.refl _) (fun _ _ => ⟨by decide, trivial⟩) ?_
                    rintro _ _ ⟨_, e1, e2, rfl, rfl, rfl⟩
                    refine VA.le _ (Le.drop 2) ?_
                    refine VA.all (rs := [12]) (by kernel_rfl) (by decide) ?_
                    refine ⟨⟨_, rfl, .inl rfl, ?_⟩, trivial⟩
                    refine OpE.store (i := 2) rfl hB rfl Tryz.sizeOf150 rfl rfl rfl rfl rfl rfl (Nle rfl) (⟨by decide, trivial⟩) ?_
                    refine VA.done (by kernel_rfl) ?_
                    exact Exists.intro (g26) (Le.mk hB [0, 1, 2] ⟨rfl, rfl, rfl, rfl, rfl, rfl, rfl, rfl, rfl, rfl, rfl, trivial⟩ rfl rfl (Nat.le_refl _))
              ·
                rintro g26
                show VC _ _ _ _ ⟨[(2, avInts l), (3, avI start), (7, pt g7), (20, avI (lateZ p o l each start)), (21, .at_ 3 (schC p (o ++ [x]) each)), (22, avI (prS p o l start each x q).1), (23, avI (prS p o l start each x q).2), (25, pt g25), (26, pt g26), (72, avI ((l.length : Int) + 1)), (73, avI (q : Int))], [.box g7 ⟨[avL o], 28, 1⟩, .box g25 ⟨[avI (runA (stpE o.length) p (o ++ [x]) (insL l q o.length) start each 0 (insL l q o.length).length)], 3, 1⟩, .box g26 ⟨[avI (resP p (o ++ [x]) (insL l q o.length) start each (insL l q o.length).length).late, avI (resP p (o ++ [x]) (insL l q o.length) start each (insL l q o.length).length).many, avI (resP p (o ++ [x]) (insL l q o.length) start each (insL l q o.length).length).en], 150, 3⟩], 0⟩
                refine VC.seq ?_
                have hiq := hins q (by omega)
                have hend : runA (stpE o.length) p (o ++ [x]) (insL l q o.length) start each 0 (insL l q o.length).length = prE p o l start each x q := by rw [insL_len (by omega), runA_end hiq (by omega) hk.ord (l.length + 1) (Nat.le_refl _), if_pos (by omega)]
                refine VC.region ?_
                refine VO.mv rfl rfl rfl rfl ?_
                refine VO.val rfl rfl (OpV.lss rfl rfl rfl) ?_
                refine VO.mv rfl rfl rfl rfl ?_
                refine VO.opG rfl rfl rfl rfl (fun aK7b => ?_) (fun aK7b => ?_)
                · replace aK7b : _ = false := aK7b
                  have aK7 := aK7b
                  try simp only [qqT, qqF, qqN, qqM, qqL, qqE] at aK7
                  refine OpE.val (W := NoB) (OpV.fieldAddrO 0 rfl Tryz.underlying150 rfl rfl Tryz.sizeOf3 rfl) rfl ?_
                  refine VO.opY rfl rfl rfl rfl aK7b ?_
                  refine OpE.val (W := NoB) (OpV.load_own (i := 2) rfl hB Tryz.isAgg3 rfl rfl rfl (fun h => h)) rfl ?_
                  refine VO.le _ (Le.recast (t := 91) (y := avI (prL p o l start each x q)) rfl (fun w Z u h => h)) ?_
                  refine VO.opY rfl rfl rfl rfl aK7b ?_
                  refine OpE.val (W := NoB) (OpV.move (.inl rfl) rfl) rfl ?_
                  refine VO.opY rfl rfl rfl rfl aK7b ?_
                  refine OpE.val (W := NoB) (OpV.lss rfl rfl rfl) rfl ?_
                  refine VO.val rfl rfl (OpV.pickF rfl rfl rfl rfl aK7b) ?_
                  refine VO.mv rfl rfl rfl rfl ?_
                  refine VO.opG rfl rfl rfl rfl (fun aK8b => ?_) (fun aK8b => ?_)
                  · replace aK8b : _ = false := aK8b
                    have aK8 := aK8b
                    try simp only [qqT, qqF, qqN, qqM, qqL, qqE] at aK8
                    refine OpE.val (W := NoB) (OpV.fieldAddrO 0 rfl Tryz.underlying150 rfl rfl Tryz.sizeOf3 rfl) rfl ?_
                    refine VO.opY rfl rfl rfl rfl aK8b ?_
                    refine OpE.val (W := NoB) (OpV.load_own (i := 2) rfl hB Tryz.isAgg3 rfl rfl rfl (fun h => h)) rfl ?_
                    refine VO.le _ (Le.recast (t := 97) (y := avI (prL p o l start each x q)) rfl (fun w Z u h => h)) ?_
                    refine VO.opY rfl rfl rfl rfl aK8b ?_
                    refine OpE.val (W := NoB) (OpV.move (.inl rfl) rfl) rfl ?_
                    refine VO.opY rfl rfl rfl rfl aK8b ?_
                    refine OpE.val (W := NoB) (OpV.eql rfl rfl rfl) rfl ?_
                    refine VO.opY rfl rfl rfl rfl aK8b ?_
                    refine OpE.val (W := NoB) (OpV.move (.inl rfl) rfl) rfl ?_
                    refine VO.opG rfl rfl rfl rfl (fun aK9b => ?_) (fun aK9b => ?_)
                    · replace aK9b : _ = true := aK9b
                      have aK9 := aK9b
                      try simp only [qqT, qqF, qqN, qqM, qqL, qqE] at aK9
                      refine OpE.val (W := NoB) (OpV.load_own (i := 1) rfl hB Tryz.isAgg3 rfl rfl rfl (fun h => h)) rfl ?_
                      refine VO.le _ (Le.recast (t := 101) (y := avI (prE p o l start each x q)) rfl (fun w Z u h => by rw [hend] at h; exact h)) ?_
                      refine VO.opY rfl rfl rfl rfl aK9b ?_
                      refine OpE.val (W := NoB) (OpV.move (.inl rfl) rfl) rfl ?_
                      refine VO.opY rfl rfl rfl rfl aK9b ?_
                      refine OpE.val (W := NoB) (OpV.lss rfl rfl rfl) rfl ?_
                      refine VO.opY rfl rfl rfl rfl aK8b ?_
                      refine OpE.val (W := NoB) (OpV.pickT rfl rfl rfl rfl aK9b) rfl ?_
                      refine VO.val rfl rfl (OpV.pickF rfl rfl rfl rfl aK8b) ?_
                      refine VO.nil ?_
                      refine VC.cond rfl (fun aH10b => ?_) (fun aH10b => ?_)
                      · have aH10 := aH10b
                        try simp only [qqT, qqF, qqN, qqM, qqL, qqE] at aH10
                        refine VC.draw (fun _ => NoB) hB (by kernel_rfl) ?_
                        refine VA.take (i := 0) rfl (by kernel_rfl) (by kernel_rfl) (by kernel_rfl) rfl rfl (OpV.fieldAddrO 0 rfl Tryz.underlying150 rfl rfl Tryz.sizeOf3 rfl) ?_
                        refine VA.take (i := 1) rfl (by kernel_rfl) (by kernel_rfl) (by kernel_rfl) rfl rfl (OpV.load_own (i := 2) rfl hB Tryz.isAgg3 rfl rfl rfl Wi.not0) ?_
                        refine VA.le _ (Le.recast (t := 107) (y := avI (prL p o l start each x q)) rfl (fun w Z u h => h)) ?_
                        refine VA.take (i := 2) rfl (by kernel_rfl) (by kernel_rfl) (by kernel_rfl) rfl rfl (OpV.load_own (i := 1) rfl hB Tryz.isAgg3 rfl rfl rfl Wi.not0) ?_
                        refine VA.le _ (Le.recast (t := 108) (y := avI (prE p o l start each x q)) rfl (fun w Z u h => by rw [hend] at h; exact h)) ?_
                        refine VA.take (i := 3) rfl (by kernel_rfl) (by kernel_rfl) (by kernel_rfl) rfl rfl (OpV.move (.inr rfl) rfl) ?_
                        refine VA.take (i := 4) rfl (by kernel_rfl) (by kernel_rfl) (by kernel_rfl) rfl rfl (OpV.move (.inr rfl) rfl) ?_
                        refine VA.done (by kernel_rfl) ?_
                        refine VC.region ?_
                        refine VO.val rfl rfl (OpV.add rfl rfl rfl (by unfold fits; omega)) ?_
                        refine VO.mv rfl rfl rfl rfl ?_
                        refine VO.nil ?_
                        exact Exists.intro (⟨q + 1, by omega⟩) (And.intro (Le.mk hB [0] ⟨(by dsimp only; first | (rw [prS_t (by omega)]; rfl) | (rw [prS_f (by omega)]; rfl)), (by dsimp only; first | (rw [prS_t (by omega)]; rfl) | (rw [prS_f (by omega)]; rfl)), rfl, rfl, rfl, rfl, rfl, rfl, rfl, trivial⟩ rfl rfl (Nat.le_refl _)) (by first | omega | (show _ < _; omega) | (simp only []; omega)))
                      · have aH10 := aH10b
                        try simp only [qqT, qqF, qqN, qqM, qqL, qqE] at aH10
                        refine VC.skip ?_
                        refine VC.region ?_
                        refine VO.val rfl rfl (OpV.add rfl rfl rfl (by unfold fits; omega)) ?_
                        refine VO.mv rfl rfl rfl rfl ?_
                        refine VO.nil ?_
                        exact Exists.intro (⟨q + 1, by omega⟩) (And.intro (Le.mk hB [0] ⟨(by dsimp only; first | (rw [prS_t (by omega)]; rfl) | (rw [prS_f (by omega)]; rfl)), (by dsimp only; first | (rw [prS_t (by omega)]; rfl) | (rw [prS_f (by omega)]; rfl)), rfl, rfl, rfl, rfl, rfl, rfl, rfl, trivial⟩ rfl rfl (Nat.le_refl _)) (by first | omega | (show _ < _; omega) | (simp only []; omega)))
                    · replace aK9b : _ = false := aK9b
                      have aK9 := aK9b
                      try simp only [qqT, qqF, qqN, qqM, qqL, qqE] at aK9
                      refine VO.opX rfl rfl rfl rfl aK9b ?_
                      refine VO.opX rfl rfl rfl rfl aK9b ?_
                      refine VO.opY rfl rfl rfl rfl aK8b ?_
                      refine OpE.val (W := NoB) (OpV.pickF rfl rfl rfl rfl aK9b) rfl ?_
                      refine VO.val rfl rfl (OpV.pickF rfl rfl rfl rfl aK8b) ?_
                      refine VO.nil ?_
                      refine VC.condF rfl rfl ?_
                      refine VC.skip ?_
                      refine VC.region ?_
                      refine VO.val rfl rfl (OpV.add rfl rfl rfl (by unfold fits; omega)) ?_
                      refine VO.mv rfl rfl rfl rfl ?_
                      refine VO.nil ?_
                      exact Exists.intro (⟨q + 1, by omega⟩) (And.intro (Le.mk hB [0] ⟨(by dsimp only; first | (rw [prS_t (by omega)]; rfl) | (rw [prS_f (by omega)]; rfl)), (by dsimp only; first | (rw [prS_t (by omega)]; rfl) | (rw [prS_f (by omega)]; rfl)), rfl, rfl, rfl, rfl, rfl, rfl, rfl, trivial⟩ rfl rfl (Nat.le_refl _)) (by first | omega | (show _ < _; omega) | (simp only []; omega)))
                  · replace aK8b : _ = true := aK8b
                    have aK8 := aK8b
                    try simp only [qqT, qqF, qqN, qqM, qqL, qqE] at aK8
                    refine VO.opX rfl rfl rfl rfl aK8b ?_
                    refine VO.opX rfl rfl rfl rfl aK8b ?_
                    refine VO.opX rfl rfl rfl rfl aK8b ?_
                    refine VO.opX rfl rfl rfl rfl aK8b ?_
                    refine VO.opU rfl rfl rfl rfl ?_
                    refine VO.opU rfl rfl rfl rfl ?_
                    refine VO.opU rfl rfl rfl rfl ?_
                    refine VO.opX rfl rfl rfl rfl aK8b ?_
                    refine VO.val rfl rfl (OpV.pickT rfl rfl rfl rfl aK8b) ?_
                    refine VO.nil ?_
                    refine VC.condT rfl rfl ?_
                    refine VC.draw (fun _ => NoB) hB (by kernel_rfl) ?_
                    refine VA.take (i := 0) rfl (by kernel_rfl) (by kernel_rfl) (by kernel_rfl) rfl rfl (OpV.fieldAddrO 0 rfl Tryz.underlying150 rfl rfl Tryz.sizeOf3 rfl) ?_
                    refine VA.take (i := 1) rfl (by kernel_rfl) (by kernel_rfl) (by kernel_rfl) rfl rfl (OpV.load_own (i := 2) rfl hB Tryz.isAgg3 rfl rfl rfl Wi.not0) ?_
                    refine VA.le _ (Le.recast (t := 107) (y := avI (prL p o l start each x q)) rfl (fun w Z u h => h)) ?_
                    refine VA.take (i := 2) rfl (by kernel_rfl) (by kernel_rfl) (by kernel_rfl) rfl rfl (OpV.load_own (i := 1) rfl hB Tryz.isAgg3 rfl rfl rfl Wi.not0) ?_
                    refine VA.le _ (Le.recast (t := 108) (y := avI (prE p o l start each x q)) rfl (fun w Z u h => by rw [hend] at h; exact h)) ?_
                    refine VA.take (i := 3) rfl (by kernel_rfl) (by kernel_rfl) (by kernel_rfl) rfl rfl (OpV.move (.inr rfl) rfl) ?_
                    refine VA.take (i := 4) rfl (by kernel_rfl) (by kernel_rfl) (by kernel_rfl) rfl rfl (OpV.move (.inr rfl) rfl) ?_
                    refine VA.done (by kernel_rfl) ?_
                    refine VC.region ?_
                    refine VO.val rfl rfl (OpV.add rfl rfl rfl (by unfold fits; omega)) ?_
                    refine VO.mv rfl rfl rfl rfl ?_
                    refine VO.nil ?_
                    exact Exists.intro (⟨q + 1, by omega⟩) (And.intro (Le.mk hB [0] ⟨(by dsimp only; first | (rw [prS_t (by omega)]; rfl) | (rw [prS_f (by omega)]; rfl)), (by dsimp only; first | (rw [prS_t (by omega)]; rfl) | (rw [prS_f (by omega)]; rfl)), rfl, rfl, rfl, rfl, rfl, rfl, rfl, trivial⟩ rfl rfl (Nat.le_refl _)) (by first | omega | (show _ < _; omega) | (simp only []; omega)))
                · replace aK7b : _ = true := aK7b
                  have aK7 := aK7b
                  try simp only [qqT, qqF, qqN, qqM, qqL, qqE] at aK7
                  refine VO.opX rfl rfl rfl rfl aK7b ?_
                  refine VO.opX rfl rfl rfl rfl aK7b ?_
                  refine VO.opX rfl rfl rfl rfl aK7b ?_
                  refine VO.val rfl rfl (OpV.pickT rfl rfl rfl rfl aK7b) ?_
                  refine VO.mv rfl rfl rfl rfl ?_
                  refine VO.opX rfl rfl rfl rfl rfl ?_
                  refine VO.opX rfl rfl rfl rfl rfl ?_
                  refine VO.opX rfl rfl rfl rfl rfl ?_
                  refine VO.opX rfl rfl rfl rfl rfl ?_
                  refine VO.opX rfl rfl rfl rfl rfl ?_
                  refine VO.opU rfl rfl rfl rfl ?_
                  refine VO.opU rfl rfl rfl rfl ?_
                  refine VO.opU rfl rfl rfl rfl ?_
                  refine VO.opX rfl rfl rfl rfl rfl ?_
                  refine VO.val rfl rfl (OpV.pickT rfl rfl rfl rfl rfl) ?_
                  refine VO.nil ?_
                  refine VC.condT rfl rfl ?_
                  refine VC.draw (fun _ => NoB) hB (by kernel_rfl) ?_
                  refine VA.take (i := 0) rfl (by kernel_rfl) (by kernel_rfl) (by kernel_rfl) rfl rfl (OpV.fieldAddrO 0 rfl Tryz.underlying150 rfl rfl Tryz.sizeOf3 rfl) ?_
                  refine VA.take (i := 1) rfl (by kernel_rfl) (by kernel_rfl) (by kernel_rfl) rfl rfl (OpV.load_own (i := 2) rfl hB Tryz.isAgg3 rfl rfl rfl Wi.not0) ?_
                  refine VA.le _ (Le.recast (t := 107) (y := avI (prL p o l start each x q)) rfl (fun w Z u h => h)) ?_
                  refine VA.take (i := 2) rfl (by kernel_rfl) (by kernel_rfl) (by kernel_rfl) rfl rfl (OpV.load_own (i := 1) rfl hB Tryz.isAgg3 rfl rfl rfl Wi.not0) ?_
                  refine VA.le _ (Le.recast (t := 108) (y := avI (prE p o l start each x q)) rfl (fun w Z u h => by rw [hend] at h; exact h)) ?_
                  refine VA.take (i := 3) rfl (by kernel_rfl) (by kernel_rfl) (by kernel_rfl) rfl rfl (OpV.move (.inr rfl) rfl) ?_
                  refine VA.take (i := 4) rfl (by kernel_rfl) (by kernel_rfl) (by kernel_rfl) rfl rfl (OpV.move (.inr rfl) rfl) ?_
                  refine VA.done (by kernel_rfl) ?_
                  refine VC.region ?_
                  refine VO.val rfl rfl (OpV.add rfl rfl rfl (by unfold fits; omega)) ?_
                  refine VO.mv rfl rfl rfl rfl ?_
                  refine VO.nil ?_
                  exact Exists.intro (⟨q + 1, by omega⟩) (And.intro (Le.mk hB [0] ⟨(by dsimp only; first | (rw [prS_t (by omega)]; rfl) | (rw [prS_f (by omega)]; rfl)), (by dsimp only; first | (rw [prS_t (by omega)]; rfl) | (rw [prS_f (by omega)]; rfl)), rfl, rfl, rfl, rfl, rfl, rfl, rfl, trivial⟩ rfl rfl (Nat.le_refl _)) (by first | omega | (show _ < _; omega) | (simp only []; omega)))
            · have aH6 := aH6b
              try simp only [qqT, qqF, qqN, qqM, qqL, qqE] at aH6
              obtain rfl : q = l.length + 1 := by omega
              refine VC.exit ?_
              refine VC.seq ?_
              have hB1 : 0 ≤ lateZ p o l each start ∧ lateZ p o l each start ≤ 300 * 300000000000000 := by
                have := (hk.res l.length (Nat.le_refl _)).1
                unfold lateZ
                omega
              have hB2 : 0 ≤ (prS p o l start each x (l.length + 1)).1 ∧ (prS p o l start each x (l.length + 1)).1 ≤ 300 * 300000000000000 := by
                obtain ⟨k, hk1, hk2⟩ := prS_is (p := p) (o := o) (l := l) (s := start) (e := each) (x := x) (q := l.length + 1) (fun k hk' => ((hins k (by omega)).res _ (Nat.le_refl _)).1.1) (Nat.succ_pos _)
                have h1 := ((hins k (by omega)).res _ (Nat.le_refl _)).1
                have h2 := insL_len (l := l) (k := k) (n := o.length) (by omega)
                rw [hk2]
                show 0 ≤ prL p o l start each x k ∧ prL p o l start each x k ≤ _
                unfold prL
                omega
              refine VC.region ?_
              refine VO.mv rfl rfl rfl rfl ?_
              refine VO.mv rfl rfl rfl rfl ?_
              refine VO.mv rfl rfl rfl rfl ?_
              refine VO.val rfl rfl (OpV.sub rfl rfl rfl (by unfold fits; omega)) ?_
              refine VO.ma rfl rfl rfl rfl ?_
              refine VO.ma rfl rfl rfl rfl ?_
              refine VO.ma rfl rfl rfl rfl ?_
              refine VO.nil ?_
              refine VC.ret ?_
              exact Exists.intro _ (And.intro (RetV.three Tryz.results34 (ResV.tmp rfl) (ResV.tmp rfl) (ResV.tmp rfl)) (by rw [hY.1, hY.2, hE]))
end Go.Proofs.YtmahammdnmmmoaaGreatDoor
namespace Go.Proofs.YtmahammdnmmmoaaGreatDoor
open Go.RowKit
set_option linter.unusedVariables false
set_option linter.unusedSimpArgs false
def oneF (p : List PaceS) (o : List OrdrS) (x : OrdrS) : Int := if ordO x ≠ 0 then ordO x else if o.any (fun y => sEq y.key x.key) = true then 6 else if hasP p x.product = true then 0 else 8
section
variable {p : List PaceS} {o : List OrdrS} {x : OrdrS}
theorem oneF_1 (h : ordO x ≠ 0) : oneF p o x = ordO x := by rw [oneF, if_pos h]
theorem oneF_6 (h : ordO x = 0) (h2 : o.any (fun y => sEq y.key x.key) = true) : oneF p o x = 6 := by rw [oneF, if_neg (by omega), if_pos h2]
theorem oneF_8 (h : ordO x = 0) (h2 : o.any (fun y => sEq y.key x.key) = false) (h3 : hasP p x.product = false) : oneF p o x = 8 := by rw [oneF, if_neg (by omega), if_neg (by rw [h2]; decide), if_neg (by rw [h3]; decide)]
theorem oneF_0 (h : ordO x = 0) (h2 : o.any (fun y => sEq y.key x.key) = false) (h3 : hasP p x.product = true) : oneF p o x = 0 := by rw [oneF, if_neg (by omega), if_neg (by rw [h2]; decide), if_pos h3]
theorem ordF_one : ordrF [x] = ordO x := by
 have e : [x].getD 0 default = x := rfl
 by_cases h : ordO x = 0
 ·rw [h]
  refine ordrF_ok (by simp) (fun j hj => ?_)
  obtain rfl : j = 0 := by simp at hj; omega
  rw [ordrE_o, e, h]; simp
 ·exact ordrF_at (q := 0) (by simp) (by simp) (fun j hj => by omega) (by rw [ordrE_o, e, if_pos h]) h
theorem prmE_one {l : List Int} {s e : Int} : prmE p o l s e x = if scheF p o l s e ≠ 0 then scheF p o l s e else oneF p o x := by
 unfold prmE oneF
 rw [ordF_one]
end
set_option maxRecDepth 100000 in
theorem rf_OrderAt1 {x : OrdrS} {k : ByteArray}  :
  SpecN Tryz.prog 202 [avT x, .at_ 1 (fun _ => avS k)] (fun y => y = avB (sEq x.key k)) := by
 refine SpecN.of_VCN Tryz.func202 rfl Tryz.ntmps202 (Nle rfl) fun w A hB => ?_
 have hnew : True := trivial
 refine VC.sr ?_
 refine VO.op rfl (OpE.box rfl hB rfl rfl rfl ?_)
 intro g2
 refine VO.ma rfl rfl rfl rfl ?_
 refine VO.nil ?_
 refine VC.sr ?_
 refine VO.val rfl rfl (OpV.fieldAddrO 0 rfl Tryz.underlying35 rfl rfl Tryz.sizeOf9 rfl) ?_
 refine VO.val rfl rfl (OpV.load_own (i := 0) rfl hB Tryz.isAgg9 rfl rfl rfl (fun h => h)) ?_
 refine VO.val rfl rfl (OpV.load_at rfl hB OutW.no Tryz.isAgg9 rfl rfl) ?_
 refine VO.val rfl rfl (OpV.seql rfl rfl rfl) ?_
 refine VO.ma rfl rfl rfl rfl ?_
 refine VO.nil ?_
 refine VC.ret ?_
 exact Exists.intro _ (And.intro (RetN.one Tryz.results202 (ResN.v rfl)) (rfl))
set_option maxRecDepth 100000 in
theorem rf_OrderAt {o : List OrdrS} {k : ByteArray} (hl : o.length ≤ 1000000) :
  SpecN Tryz.prog 86 [avL o, avS k] (fun y => y = avI (fidx (fun y => sEq y.key k) o)) := by
 refine SpecN.of_VCN Tryz.func86 rfl Tryz.ntmps86 (Nle rfl) fun w A hB => ?_
 have hnew : True := trivial
 refine VC.sr ?_
 refine VO.op rfl (OpE.box rfl hB rfl rfl rfl ?_)
 intro g3
 refine VO.ma rfl rfl rfl rfl ?_
 refine VO.nil ?_
 refine VC.sr ?_
 refine VO.mv rfl rfl rfl rfl ?_
 refine VO.val rfl rfl (OpV.makeFunc1 rfl rfl) ?_
 refine VO.op rfl (OpE.callL rfl hB rfl Tryz.call111 (slices_IndexFunc_or (p := fun y => sEq y.key k) (by omega) Tryz.call202 (fun x => rf_OrderAt1.spec)) (ArgsP.cons (ArgP.ev rfl) (ArgsP.cons (ArgP.fn1 (i := 0) (m := 1) (f := fun _ => avS k) rfl rfl (Nle rfl) (lt1 rfl)) (ArgsP.nil))) ?_)
 rintro _ rfl
 refine VO.ma rfl rfl rfl rfl ?_
 refine VO.nil ?_
 refine VC.ret ?_
 exact Exists.intro _ (And.intro (RetN.one Tryz.results86 (ResN.v rfl)) (rfl))
set_option maxRecDepth 100000 in
set_option maxHeartbeats 4000000 in
theorem rf_OneFault {p : List PaceS} {o : List OrdrS} {x : OrdrS} (hpl : p.length ≤ 1000000) (hol : o.length ≤ 1000000) (h1 : x.key.size ≤ 1000000) (h2 : x.product.size ≤ 1000000) :
  SpecN Tryz.prog 36 [avL p, avL o, avOr x] (fun y => y = avI (oneF p o x)) := by
 refine SpecN.of_VCN Tryz.func36 rfl Tryz.ntmps36 (Nle rfl) fun w A hB => ?_
 have hnew : True := trivial
 refine VC.sr ?_
 refine VO.op rfl (OpE.box rfl hB rfl rfl rfl ?_)
 intro g5
 refine VO.ma rfl rfl rfl rfl ?_
 refine VO.nil ?_
 refine VC.seq ?_
 refine VC.sr ?_
 refine VO.val rfl rfl (OpV.loadK_own (i := 0) rfl hB Tryz.isAgg35 Tryz.sizeOf35 rfl rfl rfl (fun h => h)) ?_
 refine VO.op rfl (OpE.call rfl hB rfl Tryz.call139 rfl (SpecN.spec (rf_orderFault (x := x) h1 h2)) ?_)
 rintro _ rfl
 refine VO.ma rfl rfl rfl rfl ?_
 refine VO.nil ?_
 refine VC.sr ?_
 refine VO.mv rfl rfl rfl rfl ?_
 refine VO.val rfl rfl (OpV.neq rfl rfl rfl) ?_
 refine VO.nil ?_
 refine VC.cond rfl (fun k0b => ?_) (fun k0b => ?_)
 ·have k0 := k0b
  try simp only [qqT, qqF, qqN, qqM, qqL, qqE] at k0
  refine VC.sr ?_
  refine VO.mv rfl rfl rfl rfl ?_
  refine VO.ma rfl rfl rfl rfl ?_
  refine VO.nil ?_
  refine VC.ret ?_
  exact Exists.intro _ (And.intro (RetN.one Tryz.results36 (ResN.v rfl)) (by rw [oneF_1 k0]))
 ·have k0 := k0b
  try simp only [qqT, qqF, qqN, qqM, qqL, qqE] at k0
  refine VC.skip ?_
  refine VC.seq ?_
  refine VC.sr ?_
  refine VO.mv rfl rfl rfl rfl ?_
  refine VO.val rfl rfl (OpV.fieldAddrO 0 rfl Tryz.underlying35 rfl rfl Tryz.sizeOf9 rfl) ?_
  refine VO.val rfl rfl (OpV.load_own (i := 0) rfl hB Tryz.isAgg9 rfl rfl rfl (fun h => h)) ?_
  refine VO.op rfl (OpE.call rfl hB rfl Tryz.call86 rfl (SpecN.spec (rf_OrderAt (by omega))) ?_)
  rintro _ rfl
  refine VO.val rfl rfl (OpV.geq rfl rfl rfl) ?_
  refine VO.nil ?_
  refine VC.cond rfl (fun k1b => ?_) (fun k1b => ?_)
  ·have k1 := k1b
   try simp only [qqT, qqF, qqN, qqM, qqL, qqE] at k1
   have ha : o.any (fun y => sEq y.key x.key) = true := by rw [← fidx_any]; exact decide_eq_true (by omega)
   refine VC.sr ?_
   refine VO.ma rfl rfl rfl rfl ?_
   refine VO.nil ?_
   refine VC.ret ?_
   exact Exists.intro _ (And.intro (RetN.one Tryz.results36 (ResN.v rfl)) (by rw [oneF_6 (by omega) ha]))
  ·have k1 := k1b
   try simp only [qqT, qqF, qqN, qqM, qqL, qqE] at k1
   have ha : o.any (fun y => sEq y.key x.key) = false := by rw [← fidx_any]; exact decide_eq_false (by omega)
   refine VC.skip ?_
   refine VC.seq ?_
   refine VC.sr ?_
   refine VO.mv rfl rfl rfl rfl ?_
   refine VO.val rfl rfl (OpV.fieldAddrO 1 rfl Tryz.underlying35 rfl rfl Tryz.sizeOf9 rfl) ?_
   refine VO.val rfl rfl (OpV.load_own (i := 0) rfl hB Tryz.isAgg9 rfl rfl rfl (fun h => h)) ?_
   refine VO.op rfl (OpE.call rfl hB rfl Tryz.call122 rfl (rf_PaceOf (by omega)) ?_)
   rintro _ rfl
   refine VO.mv rfl rfl rfl rfl ?_
   refine VO.val rfl rfl (OpV.extract rfl rfl rfl) ?_
   refine VO.val rfl rfl (OpV.extract rfl rfl rfl) ?_
   refine VO.op rfl (OpE.alloc rfl hB rfl Tryz.zeroValue142 rfl ?_)
   intro g8
   refine VO.op rfl (OpE.store (i := 1) rfl hB rfl Tryz.sizeOf142 rfl rfl rfl rfl rfl rfl (Nle rfl) trivial ?_)
   refine VO.ma rfl rfl rfl rfl ?_
   refine VO.nil ?_
   refine VC.sr ?_
   refine VO.mv rfl rfl rfl rfl ?_
   refine VO.val rfl rfl (OpV.not rfl rfl) ?_
   refine VO.nil ?_
   refine VC.cond rfl (fun k2b => ?_) (fun k2b => ?_)
   ·have k2 := k2b
    try simp only [qqT, qqF, qqN, qqM, qqL, qqE] at k2
    refine VC.sr ?_
    refine VO.ma rfl rfl rfl rfl ?_
    refine VO.nil ?_
    refine VC.ret ?_
    exact Exists.intro _ (And.intro (RetN.one Tryz.results36 (ResN.v rfl)) (by rw [oneF_8 (by omega) ha (by simp_all)]))
   ·have k2 := k2b
    try simp only [qqT, qqF, qqN, qqM, qqL, qqE] at k2
    refine VC.skip ?_
    refine VC.sr ?_
    refine VO.ma rfl rfl rfl rfl ?_
    refine VO.nil ?_
    refine VC.ret ?_
    exact Exists.intro _ (And.intro (RetN.one Tryz.results36 (ResN.v rfl)) (by rw [oneF_0 (by omega) ha (by simp_all)]))
def grS (p : List PaceS) (o : List OrdrS) (l : List Int) (s e : Int) (x : OrdrS) (q : Nat) : Int := if q = 0 then 0 else (prS p o l s e x q).1 - lateZ p o l e s
theorem grS_t {p : List PaceS} {o : List OrdrS} {l : List Int} {s e : Int} {x : OrdrS} {q : Nat} (h : (prS p o l s e x q).1 < 0 ∨ prL p o l s e x q < (prS p o l s e x q).1 ∨ (prL p o l s e x q = (prS p o l s e x q).1 ∧ prE p o l s e x q < (prS p o l s e x q).2)) : grS p o l s e x (q + 1) = prL p o l s e x q - lateZ p o l e s := by rw [grS, if_neg (by omega), prS_t h]
theorem grS_f {p : List PaceS} {o : List OrdrS} {l : List Int} {s e : Int} {x : OrdrS} {q : Nat} (h0 : 0 < q) (h : ¬ ((prS p o l s e x q).1 < 0 ∨ prL p o l s e x q < (prS p o l s e x q).1 ∨ (prL p o l s e x q = (prS p o l s e x q).1 ∧ prE p o l s e x q < (prS p o l s e x q).2))) : grS p o l s e x (q + 1) = grS p o l s e x q := by rw [grS, if_neg (by omega), prS_f h, grS, if_neg (by omega)]
theorem fnd_all {q : Nat} {b : Bool} (h : b = true) : avB b = avB (decide (0 < q + 1)) := by rw [h, decide_eq_true (Nat.succ_pos q)]
set_option maxRecDepth 100000 in
set_option maxHeartbeats 40000000 in
theorem rf_PromiseOf {p : List PaceS} {o : List OrdrS} {l : List Int} {start each : Int} {x : OrdrS} (hp : SmPc p) (hk : SchOk p o l start each) (hx : hasP p x.product = true) (hxb : (1 ≤ x.count ∧ x.count ≤ 100000) ∧ (0 ≤ x.ready ∧ x.ready ≤ 345686399999) ∧ (0 ≤ x.due ∧ x.due ≤ 345686399999)) (h200 : o.length ≤ 200) :
    Spec Tryz.prog 38 [avL p, avL o, avInts l, avI start, avI each, avOr x] (fun y => y = .tup [avI (prS p o l start each x (l.length + 1)).2, avI ((prS p o l start each x (l.length + 1)).1 - lateZ p o l each start)]) := by
  have hkl := hk.len
  have hpl := hp.len
  have hins := fun (k : Nat) (hk' : k ≤ l.length) => hk.ins hx hxb h200 hk'
  have hB0 := (hk.res l.length (Nat.le_refl _)).1
  refine Spec.of_VC Tryz.func38 rfl Tryz.ntmps38 (Nle rfl) fun w A hB => ?_
  have hnew : True := trivial
  refine VC.sr ?_
  refine VO.op rfl (OpE.box rfl hB rfl rfl rfl ?_)
  intro g11
  refine VO.ma rfl rfl rfl rfl ?_
  refine VO.ma rfl rfl rfl rfl ?_
  refine VO.nil ?_
  refine VC.sr ?_
  refine VO.mv rfl rfl rfl rfl ?_
  refine VO.mv rfl rfl rfl rfl ?_
  refine VO.mv rfl rfl rfl rfl ?_
  refine VO.mv rfl rfl rfl rfl ?_
  refine VO.mv rfl rfl rfl rfl ?_
  refine VO.op rfl (OpE.call rfl hB rfl Tryz.call125 rfl (SpecN.spec (rf_LateOf hp hk)) ?_)
  rintro _ rfl
  refine VO.mv rfl rfl rfl rfl ?_
  refine VO.val rfl rfl (OpV.extract rfl rfl rfl) ?_
  refine VO.le _ (Le.recast (t := 32) (y := avI (lateZ p o l each start)) rfl (fun w Z u h => h)) ?_
  have hB1 : 0 ≤ lateZ p o l each start ∧ lateZ p o l each start ≤ 300 * 300000000000000 := by unfold lateZ; omega
  refine VO.val rfl rfl (OpV.extract rfl rfl rfl) ?_
  refine VO.ma rfl rfl rfl rfl ?_
  refine VO.ma rfl rfl rfl rfl ?_
  refine VO.nil ?_
  refine VC.seq ?_
  refine VC.hap (fun hap => ?_)
  refine VC.draw (fun j b => j ∈ [4] ∧ b ≠ g11) hB (by kernel_rfl) ?_
  refine VA.take (i := 0) rfl (by kernel_rfl) (by kernel_rfl) (by kernel_rfl) rfl rfl (OpV.move (.inl rfl) rfl) ?_
  refine VA.take (i := 2) rfl (by kernel_rfl) (by kernel_rfl) (by kernel_rfl) rfl rfl (OpV.loadK_own (i := 0) rfl hB Tryz.isAgg35 Tryz.sizeOf35 rfl rfl rfl (fun ⟨_, _, _, h⟩ => h rfl)) ?_
  refine VA.all (rs := [1, 3]) (by kernel_rfl) (by decide) ?_
  refine ⟨⟨_, rfl, .inl rfl, ?_⟩, ⟨_, rfl, .inl rfl, ?_⟩, trivial⟩
  ·
    refine OpE.callR rfl hB rfl Tryz.call135 (slices_CloneO_R (by omega)) (ArgsP.cons (ArgP.ev rfl) (ArgsP.nil)) ?_
    intro u35
    refine VA.all (rs := [3]) (by kernel_rfl) (by decide) ?_
    refine ⟨⟨_, rfl, .inl rfl, ?_⟩, trivial⟩
    refine OpE.buildSlice (zc := #[.string ⟨#[]⟩, .string ⟨#[]⟩, .int .i64 0, .int .i64 0, .int .i64 0]) rfl hB rfl Tryz.underlying28 Tryz.sizeOf35 Tryz.zeroValue35 (by decide) (by decide) (by kernel_rfl) rfl rfl ?_
    refine VA.all (rs := [4]) (by kernel_rfl) (by decide) ?_
    refine ⟨⟨_, rfl, .inl rfl, ?_⟩, trivial⟩
    refine OpE.hap (fun hap => ?_)
    refine OpE.append1 (i := 1) rfl hB rfl Tryz.underlying28 (infoOf Tryz.t35 5 (by kernel_rfl) rfl rfl) rfl (by decide) (by decide) rfl rfl rfl rfl (rowL_snoc o x) (by omega) (fun g' hg => ⟨by decide, apart_ne hap (i := 1) (j := 0) hg rfl (by decide)⟩) ?_
    intro u38
    refine VA.le _ (Le.rowT (t := 38) (xs := o ++ [x]) (i := 1) hB hnew rfl rfl (by simp)) ?_
    refine VA.take (i := 5) rfl (by kernel_rfl) (by kernel_rfl) (by kernel_rfl) rfl rfl (OpV.move (.inr rfl) rfl) ?_
    refine VA.done (by kernel_rfl) ?_
    refine VC.sr ?_
    refine VO.ma rfl rfl rfl rfl ?_
    refine VO.ma rfl rfl rfl rfl ?_
    refine VO.ma rfl rfl rfl rfl ?_
    refine VO.nil ?_
    refine VC.seq ?_
    refine VC.sr ?_
    refine VO.mv rfl rfl rfl rfl ?_
    refine VO.val rfl rfl (OpV.len_im rfl Tryz.underlying22 rfl) ?_
    refine VO.val rfl rfl (OpV.add rfl rfl rfl (by unfold fits; omega)) ?_
    refine VO.mv rfl rfl rfl rfl ?_
    refine VO.nil ?_
    refine VC.block ?_
    refine VC.loopK [(0, _), (1, _), (2, _), (3, _), (4, _), (14, _), (41, _)] ⟨rfl, rfl, rfl, rfl, rfl, rfl, rfl, trivial⟩ ({q : Nat // q ≤ l.length + 1}) (fun (iZ : {q : Nat // q ≤ l.length + 1}) => match iZ with | ⟨q, hq⟩ => [(16, avL (o ++ [x])), (17, avI (prS p o l start each x q).2), (18, avI (grS p o l start each x q)), (19, avB (decide (0 < q))), (42, avI (q : Int))]) (fun (iZ : {q : Nat // q ≤ l.length + 1}) => match iZ with | ⟨q, hq⟩ => []) (fun (iZ : {q : Nat // q ≤ l.length + 1}) => match iZ with | ⟨q, hq⟩ => 0) (fun (iZ : {q : Nat // q ≤ l.length + 1}) => match iZ with | ⟨q, hq⟩ => l.length + 1 - q) ⟨0, Nat.zero_le _⟩ (Le.mk hB [] ⟨rfl, rfl, rfl, rfl, rfl, rfl, rfl, rfl, rfl, rfl, rfl, rfl, trivial⟩ rfl rfl (Nat.le_refl _)) ?_
    rintro ⟨q, hq⟩
    show VC _ _ _ _ ⟨[(16, avL (o ++ [x])), (17, avI (prS p o l start each x q).2), (18, avI (grS p o l start each x q)), (19, avB (decide (0 < q))), (42, avI (q : Int))] ++ [(0, _), (1, _), (2, _), (3, _), (4, _), (14, _), (41, _)], [], 0⟩
    refine VC.sr ?_
    refine VO.val rfl rfl (OpV.lss rfl rfl rfl) ?_
    refine VO.nil ?_
    refine VC.seq ?_
    refine VC.cond rfl (fun aH1b => ?_) (fun aH1b => ?_)
    · have aH1 := aH1b
      try simp only [qqT, qqF, qqN, qqM, qqL, qqE] at aH1
      refine VC.skip ?_
      refine VC.seq ?_
      refine VC.block ?_
      refine VC.sr ?_
      refine VO.mv rfl rfl rfl rfl ?_
      refine VO.ma rfl rfl rfl rfl ?_
      refine VO.nil ?_
      refine VC.seq ?_
      have hiq := hins q (by omega)
      have hlq := insL_len (l := l) (k := q) (n := o.length) (by omega)
      have hT : (timesQ p (o ++ [x]) (insL l q o.length) start each (insL l q o.length).length).getD o.length default = winP p (o ++ [x]) (insL l q o.length) start each q := by
        have := hiq.got (j := q) (insL l q o.length).length (by omega) (Nat.le_refl _)
        rw [insL_at (by omega)] at this
        simpa using this
      have hLb : 0 ≤ prL p o l start each x q ∧ prL p o l start each x q ≤ 300 * 300000000000000 := by
        have := (hiq.res _ (Nat.le_refl _)).1
        unfold prL
        omega
      have hp0 : q = 0 → (prS p o l start each x q).1 < 0 := by rintro rfl; show (-1 : Int) < 0; decide
      have hpp : 0 < q → 0 ≤ (prS p o l start each x q).1 ∧ grS p o l start each x q = (prS p o l start each x q).1 - lateZ p o l each start := fun h0 => by
        obtain ⟨k, hk1, hk2⟩ := prS_is (p := p) (o := o) (l := l) (s := start) (e := each) (x := x) (q := q) (fun k hk' => ((hins k (by omega)).res _ (Nat.le_refl _)).1.1) h0
        refine ⟨by rw [hk2]; exact ((hins k (by omega)).res _ (Nat.le_refl _)).1.1, by rw [grS, if_neg (by omega)]⟩
      refine VC.region ?_
      refine VO.mv rfl rfl rfl rfl ?_
      refine VO.op rfl (OpE.callR rfl hB rfl Tryz.call120 (slices_Clone_R (by omega)) (ArgsP.cons (ArgP.ev rfl) (ArgsP.nil)) ?_)
      intro u46
      refine VO.mv rfl rfl rfl rfl ?_
      refine VO.mv rfl rfl rfl rfl ?_
      refine VO.val rfl rfl (OpV.len_im rfl Tryz.underlying28 rfl) ?_
      refine VO.op rfl (OpE.buildSlice (zc := #[.int .i64 0]) rfl hB rfl Tryz.underlying22 Tryz.sizeOf3 Tryz.zeroValue3 (by decide) (by decide) (by kernel_rfl) rfl rfl ?_)
      refine VO.le _ (Le.lits (t := 50) (xs := [(o.length : Int)]) rfl rfl) ?_
      refine VO.op rfl (OpE.callH0 rfl hB rfl Tryz.call137 rfl rfl (slices_InsertI (p := l) (x := (o.length : Int)) (k := q) (by omega) (by omega)) (List.Perm.refl _) (fun _ _ => trivial) ?_)
      rintro _ _ ⟨u51, rfl, rfl⟩
      refine VO.le _ (Le.rowI (t := 51) (i := 0) (xs := insL l q o.length) hB hnew rfl rfl hlq.symm) ?_
      refine VO.ma rfl rfl rfl rfl ?_
      refine VO.nil ?_
      refine VC.sr ?_
      refine VO.mv rfl rfl rfl rfl ?_
      refine VO.mv rfl rfl rfl rfl ?_
      refine VO.mv rfl rfl rfl rfl ?_
      refine VO.mv rfl rfl rfl rfl ?_
      refine VO.mv rfl rfl rfl rfl ?_
      refine VO.op rfl (OpE.call rfl hB rfl Tryz.call125 rfl (SpecN.spec (rf_LateOf hp hiq)) ?_)
      rintro _ rfl
      refine VO.mv rfl rfl rfl rfl ?_
      refine VO.val rfl rfl (OpV.extract rfl rfl rfl) ?_
      refine VO.le _ (Le.recast (t := 59) (y := avI (prL p o l start each x q)) rfl (fun w Z u h => h)) ?_
      refine VO.val rfl rfl (OpV.extract rfl rfl rfl) ?_
      refine VO.ma rfl rfl rfl rfl ?_
      refine VO.ma rfl rfl rfl rfl ?_
      refine VO.nil ?_
      refine VC.sr ?_
      refine VO.mv rfl rfl rfl rfl ?_
      refine VO.mv rfl rfl rfl rfl ?_
      refine VO.mv rfl rfl rfl rfl ?_
      refine VO.mv rfl rfl rfl rfl ?_
      refine VO.mv rfl rfl rfl rfl ?_
      refine VO.op rfl (OpE.call rfl hB rfl Tryz.call141 rfl (SpecN.spec (rf_TimesOf hp hiq)) ?_)
      rintro _ rfl
      refine VO.mv rfl rfl rfl rfl ?_
      refine VO.val rfl rfl (OpV.len_im rfl Tryz.underlying28 rfl) ?_
      refine VO.val rfl rfl (OpV.indexAddr_E rfl Tryz.underlying161 Tryz.sizeOf165 rfl rfl rfl (by rw [timesQ_len]; simp)) ?_
      refine VO.val rfl rfl (OpV.fieldAddr_atO 1 rfl Tryz.underlying165 rfl rfl Tryz.sizeOf3 rfl rfl) ?_
      refine VO.val rfl rfl (OpV.load_at rfl hB OutW.no Tryz.isAgg3 rfl rfl) ?_
      refine VO.le _ (Le.recast (t := 71) (y := avI (prE p o l start each x q)) rfl (fun w Z u h => by rw [hT] at h; exact h)) ?_
      refine VO.ma rfl rfl rfl rfl ?_
      refine VO.nil ?_
      refine VC.sr ?_
      refine VO.mv rfl rfl rfl rfl ?_
      refine VO.val rfl rfl (OpV.not rfl rfl) ?_
      refine VO.mv rfl rfl rfl rfl ?_
      refine VO.opG rfl rfl rfl rfl (fun aK2b => ?_) (fun aK2b => ?_)
      · replace aK2b : _ = false := aK2b
        have aK2 := aK2b
        try simp only [qqT, qqF, qqN, qqM, qqL, qqE] at aK2
        refine OpE.val (W := NoB) (OpV.move (.inl rfl) rfl) rfl ?_
        refine VO.opY rfl rfl rfl rfl aK2b ?_
        refine OpE.val (W := NoB) (OpV.move (.inl rfl) rfl) rfl ?_
        refine VO.opY rfl rfl rfl rfl aK2b ?_
        refine OpE.val (W := NoB) (OpV.sub rfl rfl rfl (by unfold fits; omega)) rfl ?_
        refine VO.opY rfl rfl rfl rfl aK2b ?_
        refine OpE.val (W := NoB) (OpV.move (.inl rfl) rfl) rfl ?_
        refine VO.opY rfl rfl rfl rfl aK2b ?_
        refine OpE.val (W := NoB) (OpV.lss rfl rfl rfl) rfl ?_
        refine VO.val rfl rfl (OpV.pickF rfl rfl rfl rfl aK2b) ?_
        refine VO.mv rfl rfl rfl rfl ?_
        refine VO.opG rfl rfl rfl rfl (fun aK3b => ?_) (fun aK3b => ?_)
        · replace aK3b : _ = false := aK3b
          have aK3 := aK3b
          try simp only [qqT, qqF, qqN, qqM, qqL, qqE] at aK3
          refine OpE.val (W := NoB) (OpV.move (.inl rfl) rfl) rfl ?_
          refine VO.opY rfl rfl rfl rfl aK3b ?_
          refine OpE.val (W := NoB) (OpV.move (.inl rfl) rfl) rfl ?_
          refine VO.opY rfl rfl rfl rfl aK3b ?_
          refine OpE.val (W := NoB) (OpV.sub rfl rfl rfl (by unfold fits; omega)) rfl ?_
          refine VO.opY rfl rfl rfl rfl aK3b ?_
          refine OpE.val (W := NoB) (OpV.move (.inl rfl) rfl) rfl ?_
          refine VO.opY rfl rfl rfl rfl aK3b ?_
          refine OpE.val (W := NoB) (OpV.eql rfl rfl rfl) rfl ?_
          refine VO.opY rfl rfl rfl rfl aK3b ?_
          refine OpE.val (W := NoB) (OpV.move (.inl rfl) rfl) rfl ?_
          refine VO.opG rfl rfl rfl rfl (fun aK4b => ?_) (fun aK4b => ?_)
          · replace aK4b : _ = true := aK4b
            have aK4 := aK4b
            try simp only [qqT, qqF, qqN, qqM, qqL, qqE] at aK4
            refine OpE.val (W := NoB) (OpV.move (.inl rfl) rfl) rfl ?_
            refine VO.opY rfl rfl rfl rfl aK4b ?_
            refine OpE.val (W := NoB) (OpV.move (.inl rfl) rfl) rfl ?_
            refine VO.opY rfl rfl rfl rfl aK4b ?_
            refine OpE.val (W := NoB) (OpV.lss rfl rfl rfl) rfl ?_
            refine VO.opY rfl rfl rfl rfl aK3b ?_
            refine OpE.val (W := NoB) (OpV.pickT rfl rfl rfl rfl aK4b) rfl ?_
            refine VO.val rfl rfl (OpV.pickF rfl rfl rfl rfl aK3b) ?_
            refine VO.nil ?_
            refine VC.cond rfl (fun aH5b => ?_) (fun aH5b => ?_)
            · have aH5 := aH5b
              try simp only [qqT, qqF, qqN, qqM, qqL, qqE] at aH5
              refine VC.region ?_
              refine VO.mv rfl rfl rfl rfl ?_
              refine VO.mv rfl rfl rfl rfl ?_
              refine VO.mv rfl rfl rfl rfl ?_
              refine VO.val rfl rfl (OpV.sub rfl rfl rfl (by unfold fits; omega)) ?_
              refine VO.ma rfl rfl rfl rfl ?_
              refine VO.ma rfl rfl rfl rfl ?_
              refine VO.ma rfl rfl rfl rfl ?_
              refine VO.nil ?_
              refine VC.region ?_
              refine VO.val rfl rfl (OpV.add rfl rfl rfl (by unfold fits; omega)) ?_
              refine VO.mv rfl rfl rfl rfl ?_
              refine VO.nil ?_
              exact Exists.intro (⟨q + 1, by omega⟩) (And.intro (Le.mk hB [] ⟨rfl, (by dsimp only; first | (rw [prS_t (by omega)]; rfl) | (rw [prS_f (by omega)]; rfl)), (by dsimp only; first | (rw [grS_t (by omega)]; rfl) | (rw [grS_f (by omega) (by omega)]; rfl)), (by first | exact congrArg some (fnd_all rfl) | exact congrArg some (fnd_all (decide_eq_true (by omega)))), rfl, rfl, rfl, rfl, rfl, rfl, rfl, rfl, trivial⟩ rfl rfl (Nat.le_refl _)) (by first | omega | (show _ < _; omega) | (simp only []; omega)))
            · have aH5 := aH5b
              try simp only [qqT, qqF, qqN, qqM, qqL, qqE] at aH5
              refine VC.skip ?_
              refine VC.region ?_
              refine VO.val rfl rfl (OpV.add rfl rfl rfl (by unfold fits; omega)) ?_
              refine VO.mv rfl rfl rfl rfl ?_
              refine VO.nil ?_
              exact Exists.intro (⟨q + 1, by omega⟩) (And.intro (Le.mk hB [] ⟨rfl, (by dsimp only; first | (rw [prS_t (by omega)]; rfl) | (rw [prS_f (by omega)]; rfl)), (by dsimp only; first | (rw [grS_t (by omega)]; rfl) | (rw [grS_f (by omega) (by omega)]; rfl)), (by first | exact congrArg some (fnd_all rfl) | exact congrArg some (fnd_all (decide_eq_true (by omega)))), rfl, rfl, rfl, rfl, rfl, rfl, rfl, rfl, trivial⟩ rfl rfl (Nat.le_refl _)) (by first | omega | (show _ < _; omega) | (simp only []; omega)))
          · replace aK4b : _ = false := aK4b
            have aK4 := aK4b
            try simp only [qqT, qqF, qqN, qqM, qqL, qqE] at aK4
            refine VO.opX rfl rfl rfl rfl aK4b ?_
            refine VO.opX rfl rfl rfl rfl aK4b ?_
            refine VO.opY rfl rfl rfl rfl aK3b ?_
            refine OpE.val (W := NoB) (OpV.pickF rfl rfl rfl rfl aK4b) rfl ?_
            refine VO.val rfl rfl (OpV.pickF rfl rfl rfl rfl aK3b) ?_
            refine VO.nil ?_
            refine VC.condF rfl rfl ?_
            refine VC.skip ?_
            refine VC.region ?_
            refine VO.val rfl rfl (OpV.add rfl rfl rfl (by unfold fits; omega)) ?_
            refine VO.mv rfl rfl rfl rfl ?_
            refine VO.nil ?_
            exact Exists.intro (⟨q + 1, by omega⟩) (And.intro (Le.mk hB [] ⟨rfl, (by dsimp only; first | (rw [prS_t (by omega)]; rfl) | (rw [prS_f (by omega)]; rfl)), (by dsimp only; first | (rw [grS_t (by omega)]; rfl) | (rw [grS_f (by omega) (by omega)]; rfl)), (by first | exact congrArg some (fnd_all rfl) | exact congrArg some (fnd_all (decide_eq_true (by omega)))), rfl, rfl, rfl, rfl, rfl, rfl, rfl, rfl, trivial⟩ rfl rfl (Nat.le_refl _)) (by first | omega | (show _ < _; omega) | (simp only []; omega)))
        · replace aK3b : _ = true := aK3b
          have aK3 := aK3b
          try simp only [qqT, qqF, qqN, qqM, qqL, qqE] at aK3
          refine VO.opX rfl rfl rfl rfl aK3b ?_
          refine VO.opX rfl rfl rfl rfl aK3b ?_
          refine VO.opX rfl rfl rfl rfl aK3b ?_
          refine VO.opX rfl rfl rfl rfl aK3b ?_
          refine VO.opX rfl rfl rfl rfl aK3b ?_
          refine VO.opU rfl rfl rfl rfl ?_
          refine VO.opU rfl rfl rfl rfl ?_
          refine VO.opU rfl rfl rfl rfl ?_
          refine VO.opX rfl rfl rfl rfl aK3b ?_
          refine VO.val rfl rfl (OpV.pickT rfl rfl rfl rfl aK3b) ?_
          refine VO.nil ?_
          refine VC.condT rfl rfl ?_
          refine VC.region ?_
          refine VO.mv rfl rfl rfl rfl ?_
          refine VO.mv rfl rfl rfl rfl ?_
          refine VO.mv rfl rfl rfl rfl ?_
          refine VO.val rfl rfl (OpV.sub rfl rfl rfl (by unfold fits; omega)) ?_
          refine VO.ma rfl rfl rfl rfl ?_
          refine VO.ma rfl rfl rfl rfl ?_
          refine VO.ma rfl rfl rfl rfl ?_
          refine VO.nil ?_
          refine VC.region ?_
          refine VO.val rfl rfl (OpV.add rfl rfl rfl (by unfold fits; omega)) ?_
          refine VO.mv rfl rfl rfl rfl ?_
          refine VO.nil ?_
          exact Exists.intro (⟨q + 1, by omega⟩) (And.intro (Le.mk hB [] ⟨rfl, (by dsimp only; first | (rw [prS_t (by omega)]; rfl) | (rw [prS_f (by omega)]; rfl)), (by dsimp only; first | (rw [grS_t (by omega)]; rfl) | (rw [grS_f (by omega) (by omega)]; rfl)), (by first | exact congrArg some (fnd_all rfl) | exact congrArg some (fnd_all (decide_eq_true (by omega)))), rfl, rfl, rfl, rfl, rfl, rfl, rfl, rfl, trivial⟩ rfl rfl (Nat.le_refl _)) (by first | omega | (show _ < _; omega) | (simp only []; omega)))
      · replace aK2b : _ = true := aK2b
        have aK2 := aK2b
        try simp only [qqT, qqF, qqN, qqM, qqL, qqE] at aK2
        refine VO.opX rfl rfl rfl rfl aK2b ?_
        refine VO.opX rfl rfl rfl rfl aK2b ?_
        refine VO.opX rfl rfl rfl rfl aK2b ?_
        refine VO.opX rfl rfl rfl rfl aK2b ?_
        refine VO.val rfl rfl (OpV.pickT rfl rfl rfl rfl aK2b) ?_
        refine VO.mv rfl rfl rfl rfl ?_
        refine VO.opX rfl rfl rfl rfl rfl ?_
        refine VO.opX rfl rfl rfl rfl rfl ?_
        refine VO.opX rfl rfl rfl rfl rfl ?_
        refine VO.opX rfl rfl rfl rfl rfl ?_
        refine VO.opX rfl rfl rfl rfl rfl ?_
        refine VO.opX rfl rfl rfl rfl rfl ?_
        refine VO.opU rfl rfl rfl rfl ?_
        refine VO.opU rfl rfl rfl rfl ?_
        refine VO.opU rfl rfl rfl rfl ?_
        refine VO.opX rfl rfl rfl rfl rfl ?_
        refine VO.val rfl rfl (OpV.pickT rfl rfl rfl rfl rfl) ?_
        refine VO.nil ?_
        refine VC.condT rfl rfl ?_
        refine VC.region ?_
        refine VO.mv rfl rfl rfl rfl ?_
        refine VO.mv rfl rfl rfl rfl ?_
        refine VO.mv rfl rfl rfl rfl ?_
        refine VO.val rfl rfl (OpV.sub rfl rfl rfl (by unfold fits; omega)) ?_
        refine VO.ma rfl rfl rfl rfl ?_
        refine VO.ma rfl rfl rfl rfl ?_
        refine VO.ma rfl rfl rfl rfl ?_
        refine VO.nil ?_
        refine VC.region ?_
        refine VO.val rfl rfl (OpV.add rfl rfl rfl (by unfold fits; omega)) ?_
        refine VO.mv rfl rfl rfl rfl ?_
        refine VO.nil ?_
        exact Exists.intro (⟨q + 1, by omega⟩) (And.intro (Le.mk hB [] ⟨rfl, (by dsimp only; first | (rw [prS_t (by omega)]; rfl) | (rw [prS_f (by omega)]; rfl)), (by dsimp only; first | (rw [grS_t (by omega)]; rfl) | (rw [grS_f (by omega) (by omega)]; rfl)), (by first | exact congrArg some (fnd_all rfl) | exact congrArg some (fnd_all (decide_eq_true (by omega)))), rfl, rfl, rfl, rfl, rfl, rfl, rfl, rfl, trivial⟩ rfl rfl (Nat.le_refl _)) (by first | omega | (show _ < _; omega) | (simp only []; omega)))
    · have aH1 := aH1b
      try simp only [qqT, qqF, qqN, qqM, qqL, qqE] at aH1
      obtain rfl : q = l.length + 1 := by omega
      have hgr : grS p o l start each x (l.length + 1) = (prS p o l start each x (l.length + 1)).1 - lateZ p o l each start := by rw [grS, if_neg (by omega)]
      refine VC.exit ?_
      refine VC.sr ?_
      refine VO.mv rfl rfl rfl rfl ?_
      refine VO.mv rfl rfl rfl rfl ?_
      refine VO.ma rfl rfl rfl rfl ?_
      refine VO.ma rfl rfl rfl rfl ?_
      refine VO.nil ?_
      refine VC.ret ?_
      exact Exists.intro _ (And.intro (RetV.two Tryz.results38 (ResV.tmp rfl) (ResV.tmp rfl)) (by rw [hgr]))
  ·
    refine OpE.buildSlice (zc := #[.string ⟨#[]⟩, .string ⟨#[]⟩, .int .i64 0, .int .i64 0, .int .i64 0]) rfl hB rfl Tryz.underlying28 Tryz.sizeOf35 Tryz.zeroValue35 (by decide) (by decide) (by kernel_rfl) rfl rfl ?_
    refine VA.all (rs := [1]) (by kernel_rfl) (by decide) ?_
    refine ⟨⟨_, rfl, .inl rfl, ?_⟩, trivial⟩
    refine OpE.callR rfl hB rfl Tryz.call135 (slices_CloneO_R (by omega)) (ArgsP.cons (ArgP.ev rfl) (ArgsP.nil)) ?_
    intro u35
    refine VA.all (rs := [4]) (by kernel_rfl) (by decide) ?_
    refine ⟨⟨_, rfl, .inl rfl, ?_⟩, trivial⟩
    refine OpE.hap (fun hap => ?_)
    refine OpE.append1 (i := 1) rfl hB rfl Tryz.underlying28 (infoOf Tryz.t35 5 (by kernel_rfl) rfl rfl) rfl (by decide) (by decide) rfl rfl rfl rfl (rowL_snoc o x) (by omega) (fun g' hg => ⟨by decide, apart_ne hap (i := 1) (j := 0) hg rfl (by decide)⟩) ?_
    intro u38
    refine VA.le _ (Le.rowT (t := 38) (xs := o ++ [x]) (i := 1) hB hnew rfl rfl (by simp)) ?_
    refine VA.take (i := 5) rfl (by kernel_rfl) (by kernel_rfl) (by kernel_rfl) rfl rfl (OpV.move (.inr rfl) rfl) ?_
    refine VA.done (by kernel_rfl) ?_
    refine VC.sr ?_
    refine VO.ma rfl rfl rfl rfl ?_
    refine VO.ma rfl rfl rfl rfl ?_
    refine VO.ma rfl rfl rfl rfl ?_
    refine VO.nil ?_
    refine VC.seq ?_
    refine VC.sr ?_
    refine VO.mv rfl rfl rfl rfl ?_
    refine VO.val rfl rfl (OpV.len_im rfl Tryz.underlying22 rfl) ?_
    refine VO.val rfl rfl (OpV.add rfl rfl rfl (by unfold fits; omega)) ?_
    refine VO.mv rfl rfl rfl rfl ?_
    refine VO.nil ?_
    refine VC.block ?_
    refine VC.loopK [(0, _), (1, _), (2, _), (3, _), (4, _), (14, _), (41, _)] ⟨rfl, rfl, rfl, rfl, rfl, rfl, rfl, trivial⟩ ({q : Nat // q ≤ l.length + 1}) (fun (iZ : {q : Nat // q ≤ l.length + 1}) => match iZ with | ⟨q, hq⟩ => [(16, avL (o ++ [x])), (17, avI (prS p o l start each x q).2), (18, avI (grS p o l start each x q)), (19, avB (decide (0 < q))), (42, avI (q : Int))]) (fun (iZ : {q : Nat // q ≤ l.length + 1}) => match iZ with | ⟨q, hq⟩ => []) (fun (iZ : {q : Nat // q ≤ l.length + 1}) => match iZ with | ⟨q, hq⟩ => 0) (fun (iZ : {q : Nat // q ≤ l.length + 1}) => match iZ with | ⟨q, hq⟩ => l.length + 1 - q) ⟨0, Nat.zero_le _⟩ (Le.mk hB [] ⟨rfl, rfl, rfl, rfl, rfl, rfl, rfl, rfl, rfl, rfl, rfl, rfl, trivial⟩ rfl rfl (Nat.le_refl _)) ?_
    rintro ⟨q, hq⟩
    show VC _ _ _ _ ⟨[(16, avL (o ++ [x])), (17, avI (prS p o l start each x q).2), (18, avI (grS p o l start each x q)), (19, avB (decide (0 < q))), (42, avI (q : Int))] ++ [(0, _), (1, _), (2, _), (3, _), (4, _), (14, _), (41, _)], [], 0⟩
    refine VC.sr ?_
    refine VO.val rfl rfl (OpV.lss rfl rfl rfl) ?_
    refine VO.nil ?_
    refine VC.seq ?_
    refine VC.cond rfl (fun aH6b => ?_) (fun aH6b => ?_)
    · have aH6 := aH6b
      try simp only [qqT, qqF, qqN, qqM, qqL, qqE] at aH6
      refine VC.skip ?_
      refine VC.seq ?_
      refine VC.block ?_
      refine VC.sr ?_
      refine VO.mv rfl rfl rfl rfl ?_
      refine VO.ma rfl rfl rfl rfl ?_
      refine VO.nil ?_
      refine VC.seq ?_
      have hiq := hins q (by omega)
      have hlq := insL_len (l := l) (k := q) (n := o.length) (by omega)
      have hT : (timesQ p (o ++ [x]) (insL l q o.length) start each (insL l q o.length).length).getD o.length default = winP p (o ++ [x]) (insL l q o.length) start each q := by
        have := hiq.got (j := q) (insL l q o.length).length (by omega) (Nat.le_refl _)
        rw [insL_at (by omega)] at this
        simpa using this
      have hLb : 0 ≤ prL p o l start each x q ∧ prL p o l start each x q ≤ 300 * 300000000000000 := by
        have := (hiq.res _ (Nat.le_refl _)).1
        unfold prL
        omega
      have hp0 : q = 0 → (prS p o l start each x q).1 < 0 := by rintro rfl; show (-1 : Int) < 0; decide
      have hpp : 0 < q → 0 ≤ (prS p o l start each x q).1 ∧ grS p o l start each x q = (prS p o l start each x q).1 - lateZ p o l each start := fun h0 => by
        obtain ⟨k, hk1, hk2⟩ := prS_is (p := p) (o := o) (l := l) (s := start) (e := each) (x := x) (q := q) (fun k hk' => ((hins k (by omega)).res _ (Nat.le_refl _)).1.1) h0
        refine ⟨by rw [hk2]; exact ((hins k (by omega)).res _ (Nat.le_refl _)).1.1, by rw [grS, if_neg (by omega)]⟩
      refine VC.region ?_
      refine VO.mv rfl rfl rfl rfl ?_
      refine VO.op rfl (OpE.callR rfl hB rfl Tryz.call120 (slices_Clone_R (by omega)) (ArgsP.cons (ArgP.ev rfl) (ArgsP.nil)) ?_)
      intro u46
      refine VO.mv rfl rfl rfl rfl ?_
      refine VO.mv rfl rfl rfl rfl ?_
      refine VO.val rfl rfl (OpV.len_im rfl Tryz.underlying28 rfl) ?_
      refine VO.op rfl (OpE.buildSlice (zc := #[.int .i64 0]) rfl hB rfl Tryz.underlying22 Tryz.sizeOf3 Tryz.zeroValue3 (by decide) (by decide) (by kernel_rfl) rfl rfl ?_)
      refine VO.le _ (Le.lits (t := 50) (xs := [(o.length : Int)]) rfl rfl) ?_
      refine VO.op rfl (OpE.callH0 rfl hB rfl Tryz.call137 rfl rfl (slices_InsertI (p := l) (x := (o.length : Int)) (k := q) (by omega) (by omega)) (List.Perm.refl _) (fun _ _ => trivial) ?_)
      rintro _ _ ⟨u51, rfl, rfl⟩
      refine VO.le _ (Le.rowI (t := 51) (i := 0) (xs := insL l q o.length) hB hnew rfl rfl hlq.symm) ?_
      refine VO.ma rfl rfl rfl rfl ?_
      refine VO.nil ?_
      refine VC.sr ?_
      refine VO.mv rfl rfl rfl rfl ?_
      refine VO.mv rfl rfl rfl rfl ?_
      refine VO.mv rfl rfl rfl rfl ?_
      refine VO.mv rfl rfl rfl rfl ?_
      refine VO.mv rfl rfl rfl rfl ?_
      refine VO.op rfl (OpE.call rfl hB rfl Tryz.call125 rfl (SpecN.spec (rf_LateOf hp hiq)) ?_)
      rintro _ rfl
      refine VO.mv rfl rfl rfl rfl ?_
      refine VO.val rfl rfl (OpV.extract rfl rfl rfl) ?_
      refine VO.le _ (Le.recast (t := 59) (y := avI (prL p o l start each x q)) rfl (fun w Z u h => h)) ?_
      refine VO.val rfl rfl (OpV.extract rfl rfl rfl) ?_
      refine VO.ma rfl rfl rfl rfl ?_
      refine VO.ma rfl rfl rfl rfl ?_
      refine VO.nil ?_
      refine VC.sr ?_
      refine VO.mv rfl rfl rfl rfl ?_
      refine VO.mv rfl rfl rfl rfl ?_
      refine VO.mv rfl rfl rfl rfl ?_
      refine VO.mv rfl rfl rfl rfl ?_
      refine VO.mv rfl rfl rfl rfl ?_
      refine VO.op rfl (OpE.call rfl hB rfl Tryz.call141 rfl (SpecN.spec (rf_TimesOf hp hiq)) ?_)
      rintro _ rfl
      refine VO.mv rfl rfl rfl rfl ?_
      refine VO.val rfl rfl (OpV.len_im rfl Tryz.underlying28 rfl) ?_
      refine VO.val rfl rfl (OpV.indexAddr_E rfl Tryz.underlying161 Tryz.sizeOf165 rfl rfl rfl (by rw [timesQ_len]; simp)) ?_
      refine VO.val rfl rfl (OpV.fieldAddr_atO 1 rfl Tryz.underlying165 rfl rfl Tryz.sizeOf3 rfl rfl) ?_
      refine VO.val rfl rfl (OpV.load_at rfl hB OutW.no Tryz.isAgg3 rfl rfl) ?_
      refine VO.le _ (Le.recast (t := 71) (y := avI (prE p o l start each x q)) rfl (fun w Z u h => by rw [hT] at h; exact h)) ?_
      refine VO.ma rfl rfl rfl rfl ?_
      refine VO.nil ?_
      refine VC.sr ?_
      refine VO.mv rfl rfl rfl rfl ?_
      refine VO.val rfl rfl (OpV.not rfl rfl) ?_
      refine VO.mv rfl rfl rfl rfl ?_
      refine VO.opG rfl rfl rfl rfl (fun aK7b => ?_) (fun aK7b => ?_)
      · replace aK7b : _ = false := aK7b
        have aK7 := aK7b
        try simp only [qqT, qqF, qqN, qqM, qqL, qqE] at aK7
        refine OpE.val (W := NoB) (OpV.move (.inl rfl) rfl) rfl ?_
        refine VO.opY rfl rfl rfl rfl aK7b ?_
        refine OpE.val (W := NoB) (OpV.move (.inl rfl) rfl) rfl ?_
        refine VO.opY rfl rfl rfl rfl aK7b ?_
        refine OpE.val (W := NoB) (OpV.sub rfl rfl rfl (by unfold fits; omega)) rfl ?_
        refine VO.opY rfl rfl rfl rfl aK7b ?_
        refine OpE.val (W := NoB) (OpV.move (.inl rfl) rfl) rfl ?_
        refine VO.opY rfl rfl rfl rfl aK7b ?_
        refine OpE.val (W := NoB) (OpV.lss rfl rfl rfl) rfl ?_
        refine VO.val rfl rfl (OpV.pickF rfl rfl rfl rfl aK7b) ?_
        refine VO.mv rfl rfl rfl rfl ?_
        refine VO.opG rfl rfl rfl rfl (fun aK8b => ?_) (fun aK8b => ?_)
        · replace aK8b : _ = false := aK8b
          have aK8 := aK8b
          try simp only [qqT, qqF, qqN, qqM, qqL, qqE] at aK8
          refine OpE.val (W := NoB) (OpV.move (.inl rfl) rfl) rfl ?_
          refine VO.opY rfl rfl rfl rfl aK8b ?_
          refine OpE.val (W := NoB) (OpV.move (.inl rfl) rfl) rfl ?_
          refine VO.opY rfl rfl rfl rfl aK8b ?_
          refine OpE.val (W := NoB) (OpV.sub rfl rfl rfl (by unfold fits; omega)) rfl ?_
          refine VO.opY rfl rfl rfl rfl aK8b ?_
          refine OpE.val (W := NoB) (OpV.move (.inl rfl) rfl) rfl ?_
          refine VO.opY rfl rfl rfl rfl aK8b ?_
          refine OpE.val (W := NoB) (OpV.eql rfl rfl rfl) rfl ?_
          refine VO.opY rfl rfl rfl rfl aK8b ?_
          refine OpE.val (W := NoB) (OpV.move (.inl rfl) rfl) rfl ?_
          refine VO.opG rfl rfl rfl rfl (fun aK9b => ?_) (fun aK9b => ?_)
          · replace aK9b : _ = true := aK9b
            have aK9 := aK9b
            try simp only [qqT, qqF, qqN, qqM, qqL, qqE] at aK9
            refine OpE.val (W := NoB) (OpV.move (.inl rfl) rfl) rfl ?_
            refine VO.opY rfl rfl rfl rfl aK9b ?_
            refine OpE.val (W := NoB) (OpV.move (.inl rfl) rfl) rfl ?_
            refine VO.opY rfl rfl rfl rfl aK9b ?_
            refine OpE.val (W := NoB) (OpV.lss rfl rfl rfl) rfl ?_
            refine VO.opY rfl rfl rfl rfl aK8b ?_
            refine OpE.val (W := NoB) (OpV.pickT rfl rfl rfl rfl aK9b) rfl ?_
            refine VO.val rfl rfl (OpV.pickF rfl rfl rfl rfl aK8b) ?_
            refine VO.nil ?_
            refine VC.cond rfl (fun aH10b => ?_) (fun aH10b => ?_)
            · have aH10 := aH10b
              try simp only [qqT, qqF, qqN, qqM, qqL, qqE] at aH10
              refine VC.region ?_
              refine VO.mv rfl rfl rfl rfl ?_
              refine VO.mv rfl rfl rfl rfl ?_
              refine VO.mv rfl rfl rfl rfl ?_
              refine VO.val rfl rfl (OpV.sub rfl rfl rfl (by unfold fits; omega)) ?_
              refine VO.ma rfl rfl rfl rfl ?_
              refine VO.ma rfl rfl rfl rfl ?_
              refine VO.ma rfl rfl rfl rfl ?_
              refine VO.nil ?_
              refine VC.region ?_
              refine VO.val rfl rfl (OpV.add rfl rfl rfl (by unfold fits; omega)) ?_
              refine VO.mv rfl rfl rfl rfl ?_
              refine VO.nil ?_
              exact Exists.intro (⟨q + 1, by omega⟩) (And.intro (Le.mk hB [] ⟨rfl, (by dsimp only; first | (rw [prS_t (by omega)]; rfl) | (rw [prS_f (by omega)]; rfl)), (by dsimp only; first | (rw [grS_t (by omega)]; rfl) | (rw [grS_f (by omega) (by omega)]; rfl)), (by first | exact congrArg some (fnd_all rfl) | exact congrArg some (fnd_all (decide_eq_true (by omega)))), rfl, rfl, rfl, rfl, rfl, rfl, rfl, rfl, trivial⟩ rfl rfl (Nat.le_refl _)) (by first | omega | (show _ < _; omega) | (simp only []; omega)))
            · have aH10 := aH10b
              try simp only [qqT, qqF, qqN, qqM, qqL, qqE] at aH10
              refine VC.skip ?_
              refine VC.region ?_
              refine VO.val rfl rfl (OpV.add rfl rfl rfl (by unfold fits; omega)) ?_
              refine VO.mv rfl rfl rfl rfl ?_
              refine VO.nil ?_
              exact Exists.intro (⟨q + 1, by omega⟩) (And.intro (Le.mk hB [] ⟨rfl, (by dsimp only; first | (rw [prS_t (by omega)]; rfl) | (rw [prS_f (by omega)]; rfl)), (by dsimp only; first | (rw [grS_t (by omega)]; rfl) | (rw [grS_f (by omega) (by omega)]; rfl)), (by first | exact congrArg some (fnd_all rfl) | exact congrArg some (fnd_all (decide_eq_true (by omega)))), rfl, rfl, rfl, rfl, rfl, rfl, rfl, rfl, trivial⟩ rfl rfl (Nat.le_refl _)) (by first | omega | (show _ < _; omega) | (simp only []; omega)))
          · replace aK9b : _ = false := aK9b
            have aK9 := aK9b
            try simp only [qqT, qqF, qqN, qqM, qqL, qqE] at aK9
            refine VO.opX rfl rfl rfl rfl aK9b ?_
            refine VO.opX rfl rfl rfl rfl aK9b ?_
            refine VO.opY rfl rfl rfl rfl aK8b ?_
            refine OpE.val (W := NoB) (OpV.pickF rfl rfl rfl rfl aK9b) rfl ?_
            refine VO.val rfl rfl (OpV.pickF rfl rfl rfl rfl aK8b) ?_
            refine VO.nil ?_
            refine VC.condF rfl rfl ?_
            refine VC.skip ?_
            refine VC.region ?_
            refine VO.val rfl rfl (OpV.add rfl rfl rfl (by unfold fits; omega)) ?_
            refine VO.mv rfl rfl rfl rfl ?_
            refine VO.nil ?_
            exact Exists.intro (⟨q + 1, by omega⟩) (And.intro (Le.mk hB [] ⟨rfl, (by dsimp only; first | (rw [prS_t (by omega)]; rfl) | (rw [prS_f (by omega)]; rfl)), (by dsimp only; first | (rw [grS_t (by omega)]; rfl) | (rw [grS_f (by omega) (by omega)]; rfl)), (by first | exact congrArg some (fnd_all rfl) | exact congrArg some (fnd_all (decide_eq_true (by omega)))), rfl, rfl, rfl, rfl, rfl, rfl, rfl, rfl, trivial⟩ rfl rfl (Nat.le_refl _)) (by first | omega | (show _ < _; omega) | (simp only []; omega)))
        · replace aK8b : _ = true := aK8b
          have aK8 := aK8b
          try simp only [qqT, qqF, qqN, qqM, qqL, qqE] at aK8
          refine VO.opX rfl rfl rfl rfl aK8b ?_
          refine VO.opX rfl rfl rfl rfl aK8b ?_
          refine VO.opX rfl rfl rfl rfl aK8b ?_
          refine VO.opX rfl rfl rfl rfl aK8b ?_
          refine VO.opX rfl rfl rfl rfl aK8b ?_
          refine VO.opU rfl rfl rfl rfl ?_
          refine VO.opU rfl rfl rfl rfl ?_
          refine VO.opU rfl rfl rfl rfl ?_
          refine VO.opX rfl rfl rfl rfl aK8b ?_
          refine VO.val rfl rfl (OpV.pickT rfl rfl rfl rfl aK8b) ?_
          refine VO.nil ?_
          refine VC.condT rfl rfl ?_
          refine VC.region ?_
          refine VO.mv rfl rfl rfl rfl ?_
          refine VO.mv rfl rfl rfl rfl ?_
          refine VO.mv rfl rfl rfl rfl ?_
          refine VO.val rfl rfl (OpV.sub rfl rfl rfl (by unfold fits; omega)) ?_
          refine VO.ma rfl rfl rfl rfl ?_
          refine VO.ma rfl rfl rfl rfl ?_
          refine VO.ma rfl rfl rfl rfl ?_
          refine VO.nil ?_
          refine VC.region ?_
          refine VO.val rfl rfl (OpV.add rfl rfl rfl (by unfold fits; omega)) ?_
          refine VO.mv rfl rfl rfl rfl ?_
          refine VO.nil ?_
          exact Exists.intro (⟨q + 1, by omega⟩) (And.intro (Le.mk hB [] ⟨rfl, (by dsimp only; first | (rw [prS_t (by omega)]; rfl) | (rw [prS_f (by omega)]; rfl)), (by dsimp only; first | (rw [grS_t (by omega)]; rfl) | (rw [grS_f (by omega) (by omega)]; rfl)), (by first | exact congrArg some (fnd_all rfl) | exact congrArg some (fnd_all (decide_eq_true (by omega)))), rfl, rfl, rfl, rfl, rfl, rfl, rfl, rfl, trivial⟩ rfl rfl (Nat.le_refl _)) (by first | omega | (show _ < _; omega) | (simp only []; omega)))
      · replace aK7b : _ = true := aK7b
        have aK7 := aK7b
        try simp only [qqT, qqF, qqN, qqM, qqL, qqE] at aK7
        refine VO.opX rfl rfl rfl rfl aK7b ?_
        refine VO.opX rfl rfl rfl rfl aK7b ?_
        refine VO.opX rfl rfl rfl rfl aK7b ?_
        refine VO.opX rfl rfl rfl rfl aK7b ?_
        refine VO.val rfl rfl (OpV.pickT rfl rfl rfl rfl aK7b) ?_
        refine VO.mv rfl rfl rfl rfl ?_
        refine VO.opX rfl rfl rfl rfl rfl ?_
        refine VO.opX rfl rfl rfl rfl rfl ?_
        refine VO.opX rfl rfl rfl rfl rfl ?_
        refine VO.opX rfl rfl rfl rfl rfl ?_
        refine VO.opX rfl rfl rfl rfl rfl ?_
        refine VO.opX rfl rfl rfl rfl rfl ?_
        refine VO.opU rfl rfl rfl rfl ?_
        refine VO.opU rfl rfl rfl rfl ?_
        refine VO.opU rfl rfl rfl rfl ?_
        refine VO.opX rfl rfl rfl rfl rfl ?_
        refine VO.val rfl rfl (OpV.pickT rfl rfl rfl rfl rfl) ?_
        refine VO.nil ?_
        refine VC.condT rfl rfl ?_
        refine VC.region ?_
        refine VO.mv rfl rfl rfl rfl ?_
        refine VO.mv rfl rfl rfl rfl ?_
        refine VO.mv rfl rfl rfl rfl ?_
        refine VO.val rfl rfl (OpV.sub rfl rfl rfl (by unfold fits; omega)) ?_
        refine VO.ma rfl rfl rfl rfl ?_
        refine VO.ma rfl rfl rfl rfl ?_
        refine VO.ma rfl rfl rfl rfl ?_
        refine VO.nil ?_
        refine VC.region ?_
        refine VO.val rfl rfl (OpV.add rfl rfl rfl (by unfold fits; omega)) ?_
        refine VO.mv rfl rfl rfl rfl ?_
        refine VO.nil ?_
        exact Exists.intro (⟨q + 1, by omega⟩) (And.intro (Le.mk hB [] ⟨rfl, (by dsimp only; first | (rw [prS_t (by omega)]; rfl) | (rw [prS_f (by omega)]; rfl)), (by dsimp only; first | (rw [grS_t (by omega)]; rfl) | (rw [grS_f (by omega) (by omega)]; rfl)), (by first | exact congrArg some (fnd_all rfl) | exact congrArg some (fnd_all (decide_eq_true (by omega)))), rfl, rfl, rfl, rfl, rfl, rfl, rfl, rfl, trivial⟩ rfl rfl (Nat.le_refl _)) (by first | omega | (show _ < _; omega) | (simp only []; omega)))
    · have aH6 := aH6b
      try simp only [qqT, qqF, qqN, qqM, qqL, qqE] at aH6
      obtain rfl : q = l.length + 1 := by omega
      have hgr : grS p o l start each x (l.length + 1) = (prS p o l start each x (l.length + 1)).1 - lateZ p o l each start := by rw [grS, if_neg (by omega)]
      refine VC.exit ?_
      refine VC.sr ?_
      refine VO.mv rfl rfl rfl rfl ?_
      refine VO.mv rfl rfl rfl rfl ?_
      refine VO.ma rfl rfl rfl rfl ?_
      refine VO.ma rfl rfl rfl rfl ?_
      refine VO.nil ?_
      refine VC.ret ?_
      exact Exists.intro _ (And.intro (RetV.two Tryz.results38 (ResV.tmp rfl) (ResV.tmp rfl)) (by rw [hgr]))
end Go.Proofs.YtmahammdnmmmoaaGreatDoor
