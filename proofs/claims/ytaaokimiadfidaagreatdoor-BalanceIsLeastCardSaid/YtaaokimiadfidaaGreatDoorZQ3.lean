/- Part 3 of a proof: the walks and laws that it needs. -/
import Derived.Test.YtaaokimiadfidaaGreatDoorZQ2
namespace Go.Proofs.YtaaokimiadfidaaGreatDoor
open Go.RowKit
set_option linter.unusedVariables false
set_option linter.unusedSimpArgs false
abbrev boxPc (g : Nat) (x : PaceS) (ty : TypeId) : Ent := .box g ⟨[avS x.product, avI x.cycle, avL x.needs], ty, 3⟩
theorem nil_pace {w : World} {Z : Nat → Prop} {u : Value} (h : Rep w Z (.agg [avS ⟨#[]⟩, avI 0, .v (.slice none 0 0)]) u) : Rep w Z (avPc default) u := by
 cases h with
 | agg cs us hl hr =>
  refine .agg _ us hl fun j hj => ?_
  match j, hj with
  | 0, _ => exact hr 0 (by simp)
  | 1, _ => exact hr 1 (by simp)
  | 2, _ =>
   have := hr 2 (by simp)
   show Rep w Z (.im 0 2 _) _
   rw [this.eq_v]; exact .nil _ _
set_option maxRecDepth 100000 in
set_option maxHeartbeats 4000000 in
theorem plan_orderFault {o : List OrdrS} {i : Nat} (hs : SmOr o) (hi : i < o.length) :
  SpecN Tryz.prog 168 [avL o, avI (i : Int)] (fun y => y = avI (ordrE o i)) := by
 refine SpecN.of_VCN Tryz.func168 rfl Tryz.ntmps168 (Nle rfl) fun w A hB => ?_
 have hnew : True := trivial
 refine VC.seq ?_
 have hl := hs.len
 refine VC.region ?_
 refine VO.ma rfl rfl rfl rfl ?_
 refine VO.nil ?_
 refine VC.sr ?_
 refine VO.mv rfl rfl rfl rfl ?_
 refine VO.mv rfl rfl rfl rfl ?_
 refine VO.val rfl rfl (OpV.indexAddr_E rfl Tryz.underlying75 Tryz.sizeOf89 rfl rfl rfl (by omega)) ?_
 refine VO.val rfl rfl (OpV.loadK_at rfl hB OutW.no Tryz.isAgg89 Tryz.sizeOf89 rfl rfl) ?_
 refine VO.op rfl (OpE.alloc rfl hB rfl Tryz.zeroValue89 rfl ?_)
 intro g5
 refine VO.op rfl (OpE.store (i := 0) rfl hB rfl Tryz.sizeOf89 rfl rfl rfl rfl rfl rfl (Nle rfl) trivial ?_)
 refine VO.nil ?_
 refine VC.seq ?_
 refine VC.block ?_
 refine VC.sr ?_
 refine VO.val rfl rfl (OpV.fieldAddrO 0 rfl Tryz.underlying89 rfl rfl Tryz.sizeOf9 rfl) ?_
 refine VO.val rfl rfl (OpV.load_own (i := 0) rfl hB Tryz.isAgg9 rfl rfl rfl (fun h => h)) ?_
 refine VO.op rfl (OpE.call rfl hB rfl Tryz.call116 rfl (SpecN.spec (kit_IsKey (by have := hs.key i; omega))) ?_)
 rintro _ rfl
 refine VO.val rfl rfl (OpV.not rfl rfl) ?_
 refine VO.mv rfl rfl rfl rfl ?_
 refine VO.opG rfl rfl rfl rfl (fun aK1b => ?_) (fun aK1b => ?_)
 ·replace aK1b : _ = false := aK1b
  have aK1 := aK1b
  try simp only [qqT, qqF, qqN, qqM, qqL, qqE] at aK1
  refine OpE.val (W := NoB) (OpV.fieldAddrO 1 rfl Tryz.underlying89 rfl rfl Tryz.sizeOf9 rfl) rfl ?_
  refine VO.opY rfl rfl rfl rfl aK1b ?_
  refine OpE.val (W := NoB) (OpV.load_own (i := 0) rfl hB Tryz.isAgg9 rfl rfl rfl (fun h => h)) rfl ?_
  refine VO.opY rfl rfl rfl rfl aK1b ?_
  refine OpE.call rfl hB rfl Tryz.call116 rfl (SpecN.spec (kit_IsKey (by have := hs.prod i; omega))) ?_
  rintro _ rfl
  refine VO.opY rfl rfl rfl rfl aK1b ?_
  refine OpE.val (W := NoB) (OpV.not rfl rfl) rfl ?_
  refine VO.val rfl rfl (OpV.pickF rfl rfl rfl rfl aK1b) ?_
  refine VO.ma rfl rfl rfl rfl ?_
  refine VO.nil ?_
  refine VC.cond rfl (fun aH2b => ?_) (fun aH2b => ?_)
  ·have aH2 := aH2b
   try simp only [qqT, qqF, qqN, qqM, qqL, qqE] at aH2
   refine VC.sr ?_
   refine VO.ma rfl rfl rfl rfl ?_
   refine VO.nil ?_
   refine VC.ret ?_
   exact Exists.intro _ (And.intro (RetN.one Tryz.results168 (ResN.v rfl)) (by first | rw [ordrE_5a (by assumption)] | rw [ordrE_5b (by assumption)]))
  ·have aH2 := aH2b
   try simp only [qqT, qqF, qqN, qqM, qqL, qqE] at aH2
   refine VC.sr ?_
   refine VO.val rfl rfl (OpV.fieldAddrO 2 rfl Tryz.underlying89 rfl rfl Tryz.sizeOf3 rfl) ?_
   refine VO.val rfl rfl (OpV.load_own (i := 0) rfl hB Tryz.isAgg3 rfl rfl rfl (fun h => h)) ?_
   refine VO.op rfl (OpE.call rfl hB rfl Tryz.call119 rfl (SpecN.spec (kit_Outside)) ?_)
   rintro _ rfl
   refine VO.mv rfl rfl rfl rfl ?_
   refine VO.opG rfl rfl rfl rfl (fun aK3b => ?_) (fun aK3b => ?_)
   ·replace aK3b : _ = false := aK3b
    have aK3 := aK3b
    try simp only [qqT, qqF, qqN, qqM, qqL, qqE] at aK3
    refine OpE.val (W := NoB) (OpV.fieldAddrO 3 rfl Tryz.underlying89 rfl rfl Tryz.sizeOf3 rfl) rfl ?_
    refine VO.opY rfl rfl rfl rfl aK3b ?_
    refine OpE.val (W := NoB) (OpV.load_own (i := 0) rfl hB Tryz.isAgg3 rfl rfl rfl (fun h => h)) rfl ?_
    refine VO.opY rfl rfl rfl rfl aK3b ?_
    refine OpE.call rfl hB rfl Tryz.call117 rfl (SpecN.spec (kit_IsMoment)) ?_
    rintro _ rfl
    refine VO.opY rfl rfl rfl rfl aK3b ?_
    refine OpE.val (W := NoB) (OpV.not rfl rfl) rfl ?_
    refine VO.val rfl rfl (OpV.pickF rfl rfl rfl rfl aK3b) ?_
    refine VO.mv rfl rfl rfl rfl ?_
    refine VO.opG rfl rfl rfl rfl (fun aK4b => ?_) (fun aK4b => ?_)
    ·replace aK4b : _ = false := aK4b
     have aK4 := aK4b
     try simp only [qqT, qqF, qqN, qqM, qqL, qqE] at aK4
     refine OpE.val (W := NoB) (OpV.fieldAddrO 4 rfl Tryz.underlying89 rfl rfl Tryz.sizeOf3 rfl) rfl ?_
     refine VO.opY rfl rfl rfl rfl aK4b ?_
     refine OpE.val (W := NoB) (OpV.load_own (i := 0) rfl hB Tryz.isAgg3 rfl rfl rfl (fun h => h)) rfl ?_
     refine VO.opY rfl rfl rfl rfl aK4b ?_
     refine OpE.call rfl hB rfl Tryz.call117 rfl (SpecN.spec (kit_IsMoment)) ?_
     rintro _ rfl
     refine VO.opY rfl rfl rfl rfl aK4b ?_
     refine OpE.val (W := NoB) (OpV.not rfl rfl) rfl ?_
     refine VO.val rfl rfl (OpV.pickF rfl rfl rfl rfl aK4b) ?_
     refine VO.ma rfl rfl rfl rfl ?_
     refine VO.nil ?_
     refine VC.cond rfl (fun aH5b => ?_) (fun aH5b => ?_)
     ·have aH5 := aH5b
      try simp only [qqT, qqF, qqN, qqM, qqL, qqE] at aH5
      refine VC.sr ?_
      refine VO.ma rfl rfl rfl rfl ?_
      refine VO.nil ?_
      refine VC.ret ?_
      exact Exists.intro _ (And.intro (RetN.one Tryz.results168 (ResN.v rfl)) (by rw [ordrE_1 (by assumption) (by assumption) (by first | exact or3a (by assumption) | exact or3b (by assumption) | exact or3c (by assumption))]))
     ·have aH5 := aH5b
      try simp only [qqT, qqF, qqN, qqM, qqL, qqE] at aH5
      refine VC.seq ?_
      refine VC.draw (fun _ => NoB) hB (by kernel_rfl) ?_
      refine VA.take (i := 0) rfl (by kernel_rfl) (by kernel_rfl) (by kernel_rfl) rfl rfl (OpV.move (.inl rfl) rfl) ?_
      refine VA.take (i := 1) rfl (by kernel_rfl) (by kernel_rfl) (by kernel_rfl) rfl rfl (OpV.gtr rfl rfl rfl) ?_
      refine VA.take (i := 2) rfl (by kernel_rfl) (by kernel_rfl) (by kernel_rfl) rfl rfl (OpV.move (.inl rfl) rfl) ?_
      refine VA.split (t := 40) rfl (fun aK6b => ?_) (fun aK6b => ?_)
      ·have aK6 := aK6b
       try simp only [qqT, qqF, qqN, qqM, qqL, qqE] at aK6
       refine VA.takeY (i := 3) rfl (by kernel_rfl) (by kernel_rfl) (by kernel_rfl) rfl rfl rfl rfl aK6b (OpV.fieldAddrO 0 rfl Tryz.underlying89 rfl rfl Tryz.sizeOf9 rfl) ?_
       refine VA.takeY (i := 4) rfl (by kernel_rfl) (by kernel_rfl) (by kernel_rfl) rfl rfl rfl rfl aK6b (OpV.load_own (i := 0) rfl hB Tryz.isAgg9 rfl rfl rfl Wi.not0) ?_
       refine VA.takeY (i := 5) rfl (by kernel_rfl) (by kernel_rfl) (by kernel_rfl) rfl rfl rfl rfl aK6b (OpV.move (.inl rfl) rfl) ?_
       refine VA.takeY (i := 6) rfl (by kernel_rfl) (by kernel_rfl) (by kernel_rfl) rfl rfl rfl rfl aK6b (OpV.move (.inl rfl) rfl) ?_
       refine VA.takeY (i := 7) rfl (by kernel_rfl) (by kernel_rfl) (by kernel_rfl) rfl rfl rfl rfl aK6b (OpV.sub rfl rfl rfl (by unfold fits; omega)) ?_
       refine VA.takeY (i := 8) rfl (by kernel_rfl) (by kernel_rfl) (by kernel_rfl) rfl rfl rfl rfl aK6b (OpV.indexAddr_E rfl Tryz.underlying75 Tryz.sizeOf89 rfl rfl (show ((i : Int) - 1) = ((i - 1 : Nat) : Int) by omega) (by omega)) ?_
       refine VA.takeY (i := 9) rfl (by kernel_rfl) (by kernel_rfl) (by kernel_rfl) rfl rfl rfl rfl aK6b (OpV.fieldAddr_atO 0 rfl Tryz.underlying89 rfl rfl Tryz.sizeOf9 rfl rfl) ?_
       refine VA.takeY (i := 10) rfl (by kernel_rfl) (by kernel_rfl) (by kernel_rfl) rfl rfl rfl rfl aK6b (OpV.load_at rfl hB OutW.wi0 Tryz.isAgg9 rfl rfl) ?_
       refine VA.takeY (i := 11) rfl (by kernel_rfl) (by kernel_rfl) (by kernel_rfl) rfl rfl rfl rfl aK6b (OpV.sleq rfl rfl rfl) ?_
       refine VA.take (i := 12) rfl (by kernel_rfl) (by kernel_rfl) (by kernel_rfl) rfl rfl (OpV.pickT rfl rfl rfl rfl aK6b) ?_
       refine VA.take (i := 13) rfl (by kernel_rfl) (by kernel_rfl) (by kernel_rfl) rfl rfl (OpV.move (.inr rfl) rfl) ?_
       refine VA.done (by kernel_rfl) ?_
       refine VC.cond rfl (fun aH7b => ?_) (fun aH7b => ?_)
       ·have aH7 := aH7b
        try simp only [qqT, qqF, qqN, qqM, qqL, qqE] at aH7
        refine VC.sr ?_
        refine VO.ma rfl rfl rfl rfl ?_
        refine VO.nil ?_
        refine VC.ret ?_
        exact Exists.intro _ (And.intro (RetN.one Tryz.results168 (ResN.v rfl)) (by rw [ordrE_7 (by assumption) (by assumption) (or3f (by assumption) (by assumption) (by assumption)) (by omega) (by assumption)]))
       ·have aH7 := aH7b
        try simp only [qqT, qqF, qqN, qqM, qqL, qqE] at aH7
        refine VC.skip ?_
        refine VC.sr ?_
        refine VO.ma rfl rfl rfl rfl ?_
        refine VO.nil ?_
        refine VC.ret ?_
        exact Exists.intro _ (And.intro (RetN.one Tryz.results168 (ResN.v rfl)) (by first | rw [ordrE_0 (by assumption) (by assumption) (or3f (by assumption) (by assumption) (by assumption)) (.inr (by assumption))] | rw [ordrE_0 (by assumption) (by assumption) (or3f (by assumption) (by assumption) (by assumption)) (.inl (by omega))]))
      ·have aK6 := aK6b
       try simp only [qqT, qqF, qqN, qqM, qqL, qqE] at aK6
       refine VA.takeX (i := 3) rfl (by kernel_rfl) (by kernel_rfl) (by kernel_rfl) rfl rfl rfl rfl aK6b ?_
       refine VA.takeX (i := 4) rfl (by kernel_rfl) (by kernel_rfl) (by kernel_rfl) rfl rfl rfl rfl aK6b ?_
       refine VA.takeX (i := 5) rfl (by kernel_rfl) (by kernel_rfl) (by kernel_rfl) rfl rfl rfl rfl aK6b ?_
       refine VA.takeX (i := 6) rfl (by kernel_rfl) (by kernel_rfl) (by kernel_rfl) rfl rfl rfl rfl aK6b ?_
       refine VA.takeX (i := 7) rfl (by kernel_rfl) (by kernel_rfl) (by kernel_rfl) rfl rfl rfl rfl aK6b ?_
       refine VA.takeX (i := 8) rfl (by kernel_rfl) (by kernel_rfl) (by kernel_rfl) rfl rfl rfl rfl aK6b ?_
       refine VA.takeX (i := 9) rfl (by kernel_rfl) (by kernel_rfl) (by kernel_rfl) rfl rfl rfl rfl aK6b ?_
       refine VA.takeX (i := 10) rfl (by kernel_rfl) (by kernel_rfl) (by kernel_rfl) rfl rfl rfl rfl aK6b ?_
       refine VA.takeX (i := 11) rfl (by kernel_rfl) (by kernel_rfl) (by kernel_rfl) rfl rfl rfl rfl aK6b ?_
       refine VA.take (i := 12) rfl (by kernel_rfl) (by kernel_rfl) (by kernel_rfl) rfl rfl (OpV.pickF rfl rfl rfl rfl aK6b) ?_
       refine VA.take (i := 13) rfl (by kernel_rfl) (by kernel_rfl) (by kernel_rfl) rfl rfl (OpV.move (.inr rfl) rfl) ?_
       refine VA.done (by kernel_rfl) ?_
       refine VC.condF rfl rfl ?_
       refine VC.skip ?_
       refine VC.sr ?_
       refine VO.ma rfl rfl rfl rfl ?_
       refine VO.nil ?_
       refine VC.ret ?_
       exact Exists.intro _ (And.intro (RetN.one Tryz.results168 (ResN.v rfl)) (by first | rw [ordrE_0 (by assumption) (by assumption) (or3f (by assumption) (by assumption) (by assumption)) (.inr (by assumption))] | rw [ordrE_0 (by assumption) (by assumption) (or3f (by assumption) (by assumption) (by assumption)) (.inl (by omega))]))
    ·replace aK4b : _ = true := aK4b
     have aK4 := aK4b
     try simp only [qqT, qqF, qqN, qqM, qqL, qqE] at aK4
     refine VO.opX rfl rfl rfl rfl aK4b ?_
     refine VO.opX rfl rfl rfl rfl aK4b ?_
     refine VO.opX rfl rfl rfl rfl aK4b ?_
     refine VO.val rfl rfl (OpV.pickT rfl rfl rfl rfl aK4b) ?_
     refine VO.ma rfl rfl rfl rfl ?_
     refine VO.nil ?_
     refine VC.condT rfl rfl ?_
     refine VC.sr ?_
     refine VO.ma rfl rfl rfl rfl ?_
     refine VO.nil ?_
     refine VC.ret ?_
     exact Exists.intro _ (And.intro (RetN.one Tryz.results168 (ResN.v rfl)) (by rw [ordrE_1 (by assumption) (by assumption) (by first | exact or3a (by assumption) | exact or3b (by assumption) | exact or3c (by assumption))]))
   ·replace aK3b : _ = true := aK3b
    have aK3 := aK3b
    try simp only [qqT, qqF, qqN, qqM, qqL, qqE] at aK3
    refine VO.opX rfl rfl rfl rfl aK3b ?_
    refine VO.opX rfl rfl rfl rfl aK3b ?_
    refine VO.opX rfl rfl rfl rfl aK3b ?_
    refine VO.val rfl rfl (OpV.pickT rfl rfl rfl rfl aK3b) ?_
    refine VO.mv rfl rfl rfl rfl ?_
    refine VO.opX rfl rfl rfl rfl rfl ?_
    refine VO.opX rfl rfl rfl rfl rfl ?_
    refine VO.opX rfl rfl rfl rfl rfl ?_
    refine VO.opX rfl rfl rfl rfl rfl ?_
    refine VO.val rfl rfl (OpV.pickT rfl rfl rfl rfl rfl) ?_
    refine VO.ma rfl rfl rfl rfl ?_
    refine VO.nil ?_
    refine VC.condT rfl rfl ?_
    refine VC.sr ?_
    refine VO.ma rfl rfl rfl rfl ?_
    refine VO.nil ?_
    refine VC.ret ?_
    exact Exists.intro _ (And.intro (RetN.one Tryz.results168 (ResN.v rfl)) (by rw [ordrE_1 (by assumption) (by assumption) (by first | exact or3a (by assumption) | exact or3b (by assumption) | exact or3c (by assumption))]))
 ·replace aK1b : _ = true := aK1b
  have aK1 := aK1b
  try simp only [qqT, qqF, qqN, qqM, qqL, qqE] at aK1
  refine VO.opX rfl rfl rfl rfl aK1b ?_
  refine VO.opX rfl rfl rfl rfl aK1b ?_
  refine VO.opX rfl rfl rfl rfl aK1b ?_
  refine VO.val rfl rfl (OpV.pickT rfl rfl rfl rfl aK1b) ?_
  refine VO.ma rfl rfl rfl rfl ?_
  refine VO.nil ?_
  refine VC.condT rfl rfl ?_
  refine VC.sr ?_
  refine VO.ma rfl rfl rfl rfl ?_
  refine VO.nil ?_
  refine VC.ret ?_
  exact Exists.intro _ (And.intro (RetN.one Tryz.results168 (ResN.v rfl)) (by first | rw [ordrE_5a (by assumption)] | rw [ordrE_5b (by assumption)]))
set_option maxRecDepth 100000 in
theorem plan_CheckOrders {o : List OrdrS} (hs : SmOr o) :
  SpecN Tryz.prog 56 [avL o] (fun y => y = avI (ordrF o)) := by
 refine SpecN.of_VCN Tryz.func56 rfl Tryz.ntmps56 (Nle rfl) fun w A hB => ?_
 have hnew : True := trivial
 refine VC.seq ?_
 have hl := hs.len
 refine VC.region ?_
 refine VO.ma rfl rfl rfl rfl ?_
 refine VO.nil ?_
 refine VC.seq ?_
 refine VC.sr ?_
 refine VO.mv rfl rfl rfl rfl ?_
 refine VO.val rfl rfl (OpV.len_im rfl Tryz.underlying75 rfl) ?_
 refine VO.val rfl rfl (OpV.gtr rfl rfl rfl) ?_
 refine VO.nil ?_
 refine VC.cond rfl (fun aH1b => ?_) (fun aH1b => ?_)
 ·have aH1 := aH1b
  try simp only [qqT, qqF, qqN, qqM, qqL, qqE] at aH1
  refine VC.sr ?_
  refine VO.ma rfl rfl rfl rfl ?_
  refine VO.nil ?_
  refine VC.ret ?_
  exact Exists.intro _ (And.intro (RetN.one Tryz.results56 (ResN.v rfl)) (by rw [ordrF_2 (by omega)]))
 ·have aH1 := aH1b
  try simp only [qqT, qqF, qqN, qqM, qqL, qqE] at aH1
  refine VC.skip ?_
  refine VC.seq ?_
  refine VC.sr ?_
  refine VO.mv rfl rfl rfl rfl ?_
  refine VO.val rfl rfl (OpV.len_im rfl Tryz.underlying75 rfl) ?_
  refine VO.mv rfl rfl rfl rfl ?_
  refine VO.nil ?_
  refine VC.block ?_
  refine VC.loopK [(0, _), (9, _)] ⟨rfl, rfl, trivial⟩ ({q : Nat // q ≤ o.length ∧ ∀ j, j < q → ordrE o j = 0}) (fun (iZ : {q : Nat // q ≤ o.length ∧ ∀ j, j < q → ordrE o j = 0}) => match iZ with | ⟨q, hq, hn⟩ => [(10, avI (q : Int))]) (fun (iZ : {q : Nat // q ≤ o.length ∧ ∀ j, j < q → ordrE o j = 0}) => match iZ with | ⟨q, hq, hn⟩ => []) (fun (iZ : {q : Nat // q ≤ o.length ∧ ∀ j, j < q → ordrE o j = 0}) => match iZ with | ⟨q, hq, hn⟩ => 0) (fun (iZ : {q : Nat // q ≤ o.length ∧ ∀ j, j < q → ordrE o j = 0}) => match iZ with | ⟨q, hq, hn⟩ => o.length - q) ⟨0, Nat.zero_le _, fun j hj => absurd hj (Nat.not_lt_zero j)⟩ (Le.mk hB [] ⟨rfl, rfl, rfl, trivial⟩ rfl rfl (Nat.le_refl _)) ?_
  rintro ⟨q, hq, hn⟩
  show VC _ _ _ _ ⟨[(10, avI (q : Int))] ++ [(0, _), (9, _)], [], 0⟩
  refine VC.sr ?_
  refine VO.val rfl rfl (OpV.lss rfl rfl rfl) ?_
  refine VO.nil ?_
  refine VC.seq ?_
  refine VC.cond rfl (fun aH2b => ?_) (fun aH2b => ?_)
  ·have aH2 := aH2b
   try simp only [qqT, qqF, qqN, qqM, qqL, qqE] at aH2
   refine VC.skip ?_
   refine VC.seq ?_
   refine VC.block ?_
   refine VC.sr ?_
   refine VO.mv rfl rfl rfl rfl ?_
   refine VO.ma rfl rfl rfl rfl ?_
   refine VO.nil ?_
   refine VC.sr ?_
   refine VO.mv rfl rfl rfl rfl ?_
   refine VO.mv rfl rfl rfl rfl ?_
   refine VO.op rfl (OpE.call rfl hB rfl Tryz.call168 rfl (SpecN.spec (plan_orderFault hs (by omega))) ?_)
   rintro _ rfl
   refine VO.ma rfl rfl rfl rfl ?_
   refine VO.nil ?_
   refine VC.sr ?_
   refine VO.mv rfl rfl rfl rfl ?_
   refine VO.val rfl rfl (OpV.neq rfl rfl rfl) ?_
   refine VO.nil ?_
   refine VC.cond rfl (fun h2b => ?_) (fun h2b => ?_)
   ·have h2 := h2b
    try simp only [qqT, qqF, qqN, qqM, qqL, qqE] at h2
    refine VC.sr ?_
    refine VO.mv rfl rfl rfl rfl ?_
    refine VO.ma rfl rfl rfl rfl ?_
    refine VO.nil ?_
    refine VC.ret ?_
    exact Exists.intro _ (And.intro (RetN.one Tryz.results56 (ResN.v rfl)) (by rw [ordrF_at (by omega) (by omega) hn rfl h2]))
   ·have h2 := h2b
    try simp only [qqT, qqF, qqN, qqM, qqL, qqE] at h2
    refine VC.skip ?_
    refine VC.region ?_
    refine VO.val rfl rfl (OpV.add rfl rfl rfl (by unfold fits; omega)) ?_
    refine VO.mv rfl rfl rfl rfl ?_
    refine VO.nil ?_
    exact Exists.intro (⟨q + 1, by omega, lt_succ_cases hn ((by omega))⟩) (And.intro (Le.mk hB [] ⟨rfl, rfl, rfl, trivial⟩ rfl rfl (Nat.le_refl _)) (by first | omega | (show _ < _; omega) | (simp only []; omega)))
  ·have aH2 := aH2b
   try simp only [qqT, qqF, qqN, qqM, qqL, qqE] at aH2
   refine VC.exit ?_
   refine VC.sr ?_
   refine VO.ma rfl rfl rfl rfl ?_
   refine VO.nil ?_
   refine VC.ret ?_
   exact Exists.intro _ (And.intro (RetN.one Tryz.results56 (ResN.v rfl)) (by rw [ordrF_ok (by omega) (fun j hj => hn j (by omega))]))
set_option maxRecDepth 100000 in
set_option maxHeartbeats 4000000 in
theorem plan_CheckPaces {p : List PaceS} (hs : SmPc p) :
  SpecN Tryz.prog 58 [avL p] (fun y => y = avI (paceF p)) := by
 refine SpecN.of_VCN Tryz.func58 rfl Tryz.ntmps58 (Nle rfl) fun w A hB => ?_
 have hnew : True := trivial
 refine VC.seq ?_
 have hl := hs.len
 refine VC.region ?_
 refine VO.ma rfl rfl rfl rfl ?_
 refine VO.nil ?_
 refine VC.seq ?_
 refine VC.sr ?_
 refine VO.mv rfl rfl rfl rfl ?_
 refine VO.val rfl rfl (OpV.len_im rfl Tryz.underlying73 rfl) ?_
 refine VO.val rfl rfl (OpV.gtr rfl rfl rfl) ?_
 refine VO.nil ?_
 refine VC.cond rfl (fun aH1b => ?_) (fun aH1b => ?_)
 ·have aH1 := aH1b
  try simp only [qqT, qqF, qqN, qqM, qqL, qqE] at aH1
  refine VC.sr ?_
  refine VO.ma rfl rfl rfl rfl ?_
  refine VO.nil ?_
  refine VC.ret ?_
  exact Exists.intro _ (And.intro (RetN.one Tryz.results58 (ResN.v rfl)) (by rw [paceF_2 (by omega)]))
 ·have aH1 := aH1b
  try simp only [qqT, qqF, qqN, qqM, qqL, qqE] at aH1
  refine VC.skip ?_
  refine VC.seq ?_
  refine VC.sr ?_
  refine VO.mv rfl rfl rfl rfl ?_
  refine VO.val rfl rfl (OpV.len_im rfl Tryz.underlying73 rfl) ?_
  refine VO.mv rfl rfl rfl rfl ?_
  refine VO.nil ?_
  refine VC.block ?_
  refine VC.loopK [(0, _), (9, _), (10, _)] ⟨rfl, rfl, rfl, trivial⟩ ({q : Nat // q ≤ p.length ∧ ∀ j, j < q → paceE p j = 0}) (fun (iZ : {q : Nat // q ≤ p.length ∧ ∀ j, j < q → paceE p j = 0}) => match iZ with | ⟨q, hq, hn⟩ => [(11, avI (q : Int))]) (fun (iZ : {q : Nat // q ≤ p.length ∧ ∀ j, j < q → paceE p j = 0}) => match iZ with | ⟨q, hq, hn⟩ => []) (fun (iZ : {q : Nat // q ≤ p.length ∧ ∀ j, j < q → paceE p j = 0}) => match iZ with | ⟨q, hq, hn⟩ => 0) (fun (iZ : {q : Nat // q ≤ p.length ∧ ∀ j, j < q → paceE p j = 0}) => match iZ with | ⟨q, hq, hn⟩ => p.length - q) ⟨0, Nat.zero_le _, fun j hj => absurd hj (Nat.not_lt_zero j)⟩ (Le.mk hB [] ⟨rfl, rfl, rfl, rfl, trivial⟩ rfl rfl (Nat.le_refl _)) ?_
  rintro ⟨q, hq, hn⟩
  show VC _ _ _ _ ⟨[(11, avI (q : Int))] ++ [(0, _), (9, _), (10, _)], [], 0⟩
  refine VC.sr ?_
  refine VO.val rfl rfl (OpV.lss rfl rfl rfl) ?_
  refine VO.nil ?_
  refine VC.seq ?_
  refine VC.cond rfl (fun aH2b => ?_) (fun aH2b => ?_)
  ·have aH2 := aH2b
   try simp only [qqT, qqF, qqN, qqM, qqL, qqE] at aH2
   refine VC.skip ?_
   refine VC.seq ?_
   refine VC.block ?_
   refine VC.sr ?_
   refine VO.mv rfl rfl rfl rfl ?_
   refine VO.val rfl rfl (OpV.indexAddr_E rfl Tryz.underlying73 Tryz.sizeOf137 rfl rfl rfl (by omega)) ?_
   refine VO.val rfl rfl (OpV.loadK_at rfl hB OutW.no Tryz.isAgg137 Tryz.sizeOf137 rfl rfl) ?_
   refine VO.op rfl (OpE.alloc rfl hB rfl Tryz.zeroValue137 rfl ?_)
   intro g4
   refine VO.ma rfl rfl rfl rfl ?_
   refine VO.op rfl (OpE.store (i := 0) rfl hB rfl Tryz.sizeOf137 rfl rfl rfl rfl rfl rfl (Nle rfl) trivial ?_)
   refine VO.nil ?_
   refine VC.seq ?_
   refine VC.block ?_
   refine VC.sr ?_
   refine VO.val rfl rfl (OpV.fieldAddrO 0 rfl Tryz.underlying137 rfl rfl Tryz.sizeOf9 rfl) ?_
   refine VO.val rfl rfl (OpV.load_own (i := 0) rfl hB Tryz.isAgg9 rfl rfl rfl (fun h => h)) ?_
   refine VO.op rfl (OpE.call rfl hB rfl Tryz.call116 rfl (SpecN.spec (kit_IsKey (by have := hs.prod q; omega))) ?_)
   rintro _ rfl
   refine VO.val rfl rfl (OpV.not rfl rfl) ?_
   refine VO.ma rfl rfl rfl rfl ?_
   refine VO.nil ?_
   refine VC.cond rfl (fun k2b => ?_) (fun k2b => ?_)
   ·have k2 := k2b
    try simp only [qqT, qqF, qqN, qqM, qqL, qqE] at k2
    refine VC.sr ?_
    refine VO.ma rfl rfl rfl rfl ?_
    refine VO.nil ?_
    refine VC.ret ?_
    exact Exists.intro _ (And.intro (RetN.one Tryz.results58 (ResN.v rfl)) (by rw [paceF_at (by omega) (by omega) hn (paceE_5 k2) (by decide)]))
   ·have k2 := k2b
    try simp only [qqT, qqF, qqN, qqM, qqL, qqE] at k2
    refine VC.seq ?_
    refine VC.draw (fun _ => NoB) hB (by kernel_rfl) ?_
    refine VA.take (i := 0) rfl (by kernel_rfl) (by kernel_rfl) (by kernel_rfl) rfl rfl (OpV.move (.inl rfl) rfl) ?_
    refine VA.take (i := 1) rfl (by kernel_rfl) (by kernel_rfl) (by kernel_rfl) rfl rfl (OpV.gtr rfl rfl rfl) ?_
    refine VA.take (i := 2) rfl (by kernel_rfl) (by kernel_rfl) (by kernel_rfl) rfl rfl (OpV.move (.inl rfl) rfl) ?_
    refine VA.split (t := 24) rfl (fun aK3b => ?_) (fun aK3b => ?_)
    ·have aK3 := aK3b
     try simp only [qqT, qqF, qqN, qqM, qqL, qqE] at aK3
     refine VA.takeY (i := 3) rfl (by kernel_rfl) (by kernel_rfl) (by kernel_rfl) rfl rfl rfl rfl aK3b (OpV.fieldAddrO 0 rfl Tryz.underlying137 rfl rfl Tryz.sizeOf9 rfl) ?_
     refine VA.takeY (i := 4) rfl (by kernel_rfl) (by kernel_rfl) (by kernel_rfl) rfl rfl rfl rfl aK3b (OpV.load_own (i := 0) rfl hB Tryz.isAgg9 rfl rfl rfl Wi.not0) ?_
     refine VA.takeY (i := 5) rfl (by kernel_rfl) (by kernel_rfl) (by kernel_rfl) rfl rfl rfl rfl aK3b (OpV.move (.inl rfl) rfl) ?_
     refine VA.takeY (i := 6) rfl (by kernel_rfl) (by kernel_rfl) (by kernel_rfl) rfl rfl rfl rfl aK3b (OpV.move (.inl rfl) rfl) ?_
     refine VA.takeY (i := 7) rfl (by kernel_rfl) (by kernel_rfl) (by kernel_rfl) rfl rfl rfl rfl aK3b (OpV.sub rfl rfl rfl (by unfold fits; omega)) ?_
     refine VA.takeY (i := 8) rfl (by kernel_rfl) (by kernel_rfl) (by kernel_rfl) rfl rfl rfl rfl aK3b (OpV.indexAddr_E rfl Tryz.underlying73 Tryz.sizeOf137 rfl rfl (show ((q : Int) - 1) = ((q - 1 : Nat) : Int) by omega) (by omega)) ?_
     refine VA.takeY (i := 9) rfl (by kernel_rfl) (by kernel_rfl) (by kernel_rfl) rfl rfl rfl rfl aK3b (OpV.fieldAddr_atO 0 rfl Tryz.underlying137 rfl rfl Tryz.sizeOf9 rfl rfl) ?_
     refine VA.takeY (i := 10) rfl (by kernel_rfl) (by kernel_rfl) (by kernel_rfl) rfl rfl rfl rfl aK3b (OpV.load_at rfl hB OutW.wi0 Tryz.isAgg9 rfl rfl) ?_
     refine VA.takeY (i := 11) rfl (by kernel_rfl) (by kernel_rfl) (by kernel_rfl) rfl rfl rfl rfl aK3b (OpV.sleq rfl rfl rfl) ?_
     refine VA.take (i := 12) rfl (by kernel_rfl) (by kernel_rfl) (by kernel_rfl) rfl rfl (OpV.pickT rfl rfl rfl rfl aK3b) ?_
     refine VA.take (i := 13) rfl (by kernel_rfl) (by kernel_rfl) (by kernel_rfl) rfl rfl (OpV.move (.inr rfl) rfl) ?_
     refine VA.done (by kernel_rfl) ?_
     refine VC.cond rfl (fun k3b => ?_) (fun k3b => ?_)
     ·have k3 := k3b
      try simp only [qqT, qqF, qqN, qqM, qqL, qqE] at k3
      refine VC.sr ?_
      refine VO.ma rfl rfl rfl rfl ?_
      refine VO.nil ?_
      refine VC.ret ?_
      exact Exists.intro _ (And.intro (RetN.one Tryz.results58 (ResN.v rfl)) (by rw [paceF_at (by omega) (by omega) hn (paceE_7 k2 (by omega) (by assumption)) (by decide)]))
     ·have k3 := k3b
      try simp only [qqT, qqF, qqN, qqM, qqL, qqE] at k3
      refine VC.sr ?_
      refine VO.val rfl rfl (OpV.fieldAddrO 1 rfl Tryz.underlying137 rfl rfl Tryz.sizeOf3 rfl) ?_
      refine VO.val rfl rfl (OpV.load_own (i := 0) rfl hB Tryz.isAgg3 rfl rfl rfl (fun h => h)) ?_
      refine VO.op rfl (OpE.call rfl hB rfl Tryz.call119 rfl (SpecN.spec (kit_Outside)) ?_)
      rintro _ rfl
      refine VO.ma rfl rfl rfl rfl ?_
      refine VO.nil ?_
      refine VC.cond rfl (fun k4b => ?_) (fun k4b => ?_)
      ·have k4 := k4b
       try simp only [qqT, qqF, qqN, qqM, qqL, qqE] at k4
       refine VC.sr ?_
       refine VO.ma rfl rfl rfl rfl ?_
       refine VO.nil ?_
       refine VC.ret ?_
       exact Exists.intro _ (And.intro (RetN.one Tryz.results58 (ResN.v rfl)) (by first | rw [paceF_at (by omega) (by omega) hn (paceE_1 k2 (.inr (by assumption)) k4) (by decide)] | rw [paceF_at (by omega) (by omega) hn (paceE_1 k2 (.inl (by omega)) k4) (by decide)]))
      ·have k4 := k4b
       try simp only [qqT, qqF, qqN, qqM, qqL, qqE] at k4
       refine VC.skip ?_
       refine VC.sr ?_
       refine VO.val rfl rfl (OpV.fieldAddrO 2 rfl Tryz.underlying137 rfl rfl Tryz.sizeOf77 rfl) ?_
       refine VO.val rfl rfl (OpV.load_own (i := 0) rfl hB Tryz.isAgg77 rfl rfl rfl (fun h => h)) ?_
       refine VO.op rfl (OpE.call rfl hB rfl Tryz.call170 rfl (SpecN.spec (line_CheckNeeds (by have := hs.nlen q; omega) (fun j => by have := hs.nkey q j; omega))) ?_)
       rintro _ rfl
       refine VO.ma rfl rfl rfl rfl ?_
       refine VO.nil ?_
       refine VC.sr ?_
       refine VO.mv rfl rfl rfl rfl ?_
       refine VO.val rfl rfl (OpV.neq rfl rfl rfl) ?_
       refine VO.nil ?_
       refine VC.cond rfl (fun k5b => ?_) (fun k5b => ?_)
       ·have k5 := k5b
        try simp only [qqT, qqF, qqN, qqM, qqL, qqE] at k5
        refine VC.sr ?_
        refine VO.mv rfl rfl rfl rfl ?_
        refine VO.ma rfl rfl rfl rfl ?_
        refine VO.nil ?_
        refine VC.ret ?_
        exact Exists.intro _ (And.intro (RetN.one Tryz.results58 (ResN.v rfl)) (by first | rw [paceF_at (by omega) (by omega) hn (paceE_n k2 (.inr (by assumption)) k4) k5] | rw [paceF_at (by omega) (by omega) hn (paceE_n k2 (.inl (by omega)) k4) k5]))
       ·have k5 := k5b
        try simp only [qqT, qqF, qqN, qqM, qqL, qqE] at k5
        refine VC.skip ?_
        refine VC.region ?_
        refine VO.val rfl rfl (OpV.add rfl rfl rfl (by unfold fits; omega)) ?_
        refine VO.mv rfl rfl rfl rfl ?_
        refine VO.nil ?_
        exact Exists.intro (⟨q + 1, by omega, lt_succ_cases hn ((by first | (rw [paceE_n k2 (.inr (by assumption)) k4]; omega) | (rw [paceE_n k2 (.inl (by omega)) k4]; omega)))⟩) (And.intro (Le.mk hB [] ⟨rfl, rfl, rfl, rfl, trivial⟩ rfl rfl (Nat.le_refl _)) (by first | omega | (show _ < _; omega) | (simp only []; omega)))
    ·have aK3 := aK3b
     try simp only [qqT, qqF, qqN, qqM, qqL, qqE] at aK3
     refine VA.takeX (i := 3) rfl (by kernel_rfl) (by kernel_rfl) (by kernel_rfl) rfl rfl rfl rfl aK3b ?_
     refine VA.takeX (i := 4) rfl (by kernel_rfl) (by kernel_rfl) (by kernel_rfl) rfl rfl rfl rfl aK3b ?_
     refine VA.takeX (i := 5) rfl (by kernel_rfl) (by kernel_rfl) (by kernel_rfl) rfl rfl rfl rfl aK3b ?_
     refine VA.takeX (i := 6) rfl (by kernel_rfl) (by kernel_rfl) (by kernel_rfl) rfl rfl rfl rfl aK3b ?_
     refine VA.takeX (i := 7) rfl (by kernel_rfl) (by kernel_rfl) (by kernel_rfl) rfl rfl rfl rfl aK3b ?_
     refine VA.takeX (i := 8) rfl (by kernel_rfl) (by kernel_rfl) (by kernel_rfl) rfl rfl rfl rfl aK3b ?_
     refine VA.takeX (i := 9) rfl (by kernel_rfl) (by kernel_rfl) (by kernel_rfl) rfl rfl rfl rfl aK3b ?_
     refine VA.takeX (i := 10) rfl (by kernel_rfl) (by kernel_rfl) (by kernel_rfl) rfl rfl rfl rfl aK3b ?_
     refine VA.takeX (i := 11) rfl (by kernel_rfl) (by kernel_rfl) (by kernel_rfl) rfl rfl rfl rfl aK3b ?_
     refine VA.take (i := 12) rfl (by kernel_rfl) (by kernel_rfl) (by kernel_rfl) rfl rfl (OpV.pickF rfl rfl rfl rfl aK3b) ?_
     refine VA.take (i := 13) rfl (by kernel_rfl) (by kernel_rfl) (by kernel_rfl) rfl rfl (OpV.move (.inr rfl) rfl) ?_
     refine VA.done (by kernel_rfl) ?_
     refine VC.condF rfl rfl ?_
     refine VC.sr ?_
     refine VO.val rfl rfl (OpV.fieldAddrO 1 rfl Tryz.underlying137 rfl rfl Tryz.sizeOf3 rfl) ?_
     refine VO.val rfl rfl (OpV.load_own (i := 0) rfl hB Tryz.isAgg3 rfl rfl rfl (fun h => h)) ?_
     refine VO.op rfl (OpE.call rfl hB rfl Tryz.call119 rfl (SpecN.spec (kit_Outside)) ?_)
     rintro _ rfl
     refine VO.ma rfl rfl rfl rfl ?_
     refine VO.nil ?_
     refine VC.cond rfl (fun k4b => ?_) (fun k4b => ?_)
     ·have k4 := k4b
      try simp only [qqT, qqF, qqN, qqM, qqL, qqE] at k4
      refine VC.sr ?_
      refine VO.ma rfl rfl rfl rfl ?_
      refine VO.nil ?_
      refine VC.ret ?_
      exact Exists.intro _ (And.intro (RetN.one Tryz.results58 (ResN.v rfl)) (by first | rw [paceF_at (by omega) (by omega) hn (paceE_1 k2 (.inr (by assumption)) k4) (by decide)] | rw [paceF_at (by omega) (by omega) hn (paceE_1 k2 (.inl (by omega)) k4) (by decide)]))
     ·have k4 := k4b
      try simp only [qqT, qqF, qqN, qqM, qqL, qqE] at k4
      refine VC.skip ?_
      refine VC.sr ?_
      refine VO.val rfl rfl (OpV.fieldAddrO 2 rfl Tryz.underlying137 rfl rfl Tryz.sizeOf77 rfl) ?_
      refine VO.val rfl rfl (OpV.load_own (i := 0) rfl hB Tryz.isAgg77 rfl rfl rfl (fun h => h)) ?_
      refine VO.op rfl (OpE.call rfl hB rfl Tryz.call170 rfl (SpecN.spec (line_CheckNeeds (by have := hs.nlen q; omega) (fun j => by have := hs.nkey q j; omega))) ?_)
      rintro _ rfl
      refine VO.ma rfl rfl rfl rfl ?_
      refine VO.nil ?_
      refine VC.sr ?_
      refine VO.mv rfl rfl rfl rfl ?_
      refine VO.val rfl rfl (OpV.neq rfl rfl rfl) ?_
      refine VO.nil ?_
      refine VC.cond rfl (fun k5b => ?_) (fun k5b => ?_)
      ·have k5 := k5b
       try simp only [qqT, qqF, qqN, qqM, qqL, qqE] at k5
       refine VC.sr ?_
       refine VO.mv rfl rfl rfl rfl ?_
       refine VO.ma rfl rfl rfl rfl ?_
       refine VO.nil ?_
       refine VC.ret ?_
       exact Exists.intro _ (And.intro (RetN.one Tryz.results58 (ResN.v rfl)) (by first | rw [paceF_at (by omega) (by omega) hn (paceE_n k2 (.inr (by assumption)) k4) k5] | rw [paceF_at (by omega) (by omega) hn (paceE_n k2 (.inl (by omega)) k4) k5]))
      ·have k5 := k5b
       try simp only [qqT, qqF, qqN, qqM, qqL, qqE] at k5
       refine VC.skip ?_
       refine VC.region ?_
       refine VO.val rfl rfl (OpV.add rfl rfl rfl (by unfold fits; omega)) ?_
       refine VO.mv rfl rfl rfl rfl ?_
       refine VO.nil ?_
       exact Exists.intro (⟨q + 1, by omega, lt_succ_cases hn ((by first | (rw [paceE_n k2 (.inr (by assumption)) k4]; omega) | (rw [paceE_n k2 (.inl (by omega)) k4]; omega)))⟩) (And.intro (Le.mk hB [] ⟨rfl, rfl, rfl, rfl, trivial⟩ rfl rfl (Nat.le_refl _)) (by first | omega | (show _ < _; omega) | (simp only []; omega)))
  ·have aH2 := aH2b
   try simp only [qqT, qqF, qqN, qqM, qqL, qqE] at aH2
   refine VC.exit ?_
   refine VC.sr ?_
   refine VO.ma rfl rfl rfl rfl ?_
   refine VO.nil ?_
   refine VC.ret ?_
   exact Exists.intro _ (And.intro (RetN.one Tryz.results58 (ResN.v rfl)) (by rw [paceF_ok (by omega) (fun j hj => hn j (by omega))]))
set_option maxRecDepth 100000 in
theorem plan_paceOf1 {x : PaceS} {k : ByteArray}  :
  SpecN Tryz.prog 325 [avT x, avS k] (fun y => y = avI (cmpB x.product k)) := by
 refine SpecN.of_VCN Tryz.func325 rfl Tryz.ntmps325 (Nle rfl) fun w A hB => ?_
 have hnew : True := trivial
 refine VC.sr ?_
 refine VO.op rfl (OpE.box rfl hB rfl rfl rfl ?_)
 intro g2
 refine VO.ma rfl rfl rfl rfl ?_
 refine VO.nil ?_
 refine VC.sr ?_
 refine VO.val rfl rfl (OpV.fieldAddrO 0 rfl Tryz.underlying137 rfl rfl Tryz.sizeOf9 rfl) ?_
 refine VO.val rfl rfl (OpV.load_own (i := 0) rfl hB Tryz.isAgg9 rfl rfl rfl (fun h => h)) ?_
 refine VO.mv rfl rfl rfl rfl ?_
 refine VO.op rfl (OpE.call rfl hB rfl Tryz.call150 rfl (SpecN.spec (strings_Compare_S)) ?_)
 rintro _ rfl
 refine VO.ma rfl rfl rfl rfl ?_
 refine VO.nil ?_
 refine VC.ret ?_
 exact Exists.intro _ (And.intro (RetN.one Tryz.results325 (ResN.v rfl)) (rfl))
set_option maxRecDepth 100000 in
theorem bsf_pace {xs : List PaceS} {t : ByteArray} {F : FuncId} {cs : List AV} {c : PaceS → Int} {s0 : Nat} (hl : xs.length ≤ 1000000) (hcall : ∀ us w, (callFunc F us).run Tryz.prog w = .ok (.enter F us) w) (hF : ∀ x, Spec Tryz.prog F ([avT x, avS t] ++ cs) (fun y => y = avI (c x))) (hs : s0 ≤ xs.length) (hlo : ∀ j, j < s0 → c (xs.getD j default) < 0) (hhi : ∀ j, s0 ≤ j → j < xs.length → 0 ≤ c (xs.getD j default)) :
  SpecN Tryz.prog 324 [avL xs, avS t, .fn F cs] (fun y => y = .tup [avI (s0 : Int), avB (decide (s0 < xs.length) && decide (c (xs.getD s0 default) = 0))]) := by
 refine SpecN.of_VCN Tryz.func324 rfl Tryz.ntmps324 (Nle rfl) fun w A hB => ?_
 have hnew : True := trivial
 refine VC.sr ?_
 refine VO.ma rfl rfl rfl rfl ?_
 refine VO.ma rfl rfl rfl rfl ?_
 refine VO.nil ?_
 refine VC.sr ?_
 refine VO.mv rfl rfl rfl rfl ?_
 refine VO.val rfl rfl (OpV.len_im rfl Tryz.underlying73 rfl) ?_
 refine VO.ma rfl rfl rfl rfl ?_
 refine VO.nil ?_
 refine VC.sr ?_
 refine VO.mv rfl rfl rfl rfl ?_
 refine VO.ma rfl rfl rfl rfl ?_
 refine VO.ma rfl rfl rfl rfl ?_
 refine VO.nil ?_
 refine VC.seq ?_
 refine VC.block ?_
 refine VC.loopK [(0, _), (1, _), (2, _), (8, _)] ⟨rfl, rfl, rfl, rfl, trivial⟩ ({z : Nat × Nat // z.1 ≤ s0 ∧ s0 ≤ z.2 ∧ z.2 ≤ xs.length}) (fun (iZ : {z : Nat × Nat // z.1 ≤ s0 ∧ s0 ≤ z.2 ∧ z.2 ≤ xs.length}) => match iZ with | ⟨⟨i, j⟩, h1, h2, h3⟩ => [(9, avI (i : Int)), (10, avI (j : Int))]) (fun (iZ : {z : Nat × Nat // z.1 ≤ s0 ∧ s0 ≤ z.2 ∧ z.2 ≤ xs.length}) => match iZ with | ⟨⟨i, j⟩, h1, h2, h3⟩ => []) (fun (iZ : {z : Nat × Nat // z.1 ≤ s0 ∧ s0 ≤ z.2 ∧ z.2 ≤ xs.length}) => match iZ with | ⟨⟨i, j⟩, h1, h2, h3⟩ => 0) (fun (iZ : {z : Nat × Nat // z.1 ≤ s0 ∧ s0 ≤ z.2 ∧ z.2 ≤ xs.length}) => match iZ with | ⟨⟨i, j⟩, h1, h2, h3⟩ => j - i) ⟨(0, xs.length), Nat.zero_le _, hs, Nat.le_refl _⟩ (Le.mk hB [] ⟨rfl, rfl, rfl, rfl, rfl, rfl, trivial⟩ rfl rfl (Nat.le_refl _)) ?_
 rintro ⟨⟨i, j⟩, h1, h2, h3⟩
 show VC _ _ _ _ ⟨[(9, avI (i : Int)), (10, avI (j : Int))] ++ [(0, _), (1, _), (2, _), (8, _)], [], 0⟩
 simp only at h1 h2 h3
 refine VC.seq ?_
 refine VC.sr ?_
 refine VO.mv rfl rfl rfl rfl ?_
 refine VO.mv rfl rfl rfl rfl ?_
 refine VO.val rfl rfl (OpV.lss rfl rfl rfl) ?_
 refine VO.nil ?_
 refine VC.cond rfl (fun aH1b => ?_) (fun aH1b => ?_)
 ·have aH1 := aH1b
  try simp only [qqT, qqF, qqN, qqM, qqL, qqE] at aH1
  refine VC.skip ?_
  refine VC.block ?_
  refine VC.sr ?_
  refine VO.mv rfl rfl rfl rfl ?_
  refine VO.mv rfl rfl rfl rfl ?_
  refine VO.val rfl rfl (OpV.add rfl rfl rfl (by unfold fits; omega)) ?_
  refine VO.val rfl rfl (OpV.conv rfl Tryz.underlying3 Tryz.underlying191 rfl (IntWalk.u64_in _ (by omega))) ?_
  refine VO.val rfl rfl (OpV.shr1 rfl rfl rfl rfl (by omega)) ?_
  refine VO.val rfl rfl (OpV.conv rfl Tryz.underlying191 Tryz.underlying3 rfl (IntWalk.i64_in _ (by omega))) ?_
  refine VO.ma rfl rfl rfl rfl ?_
  refine VO.nil ?_
  refine VC.sr ?_
  refine VO.mv rfl rfl rfl rfl ?_
  refine VO.mv rfl rfl rfl rfl ?_
  refine VO.mv rfl rfl rfl rfl ?_
  refine VO.val rfl rfl (OpV.indexAddr_E rfl Tryz.underlying73 Tryz.sizeOf137 rfl rfl (Int.toNat_of_nonneg (by omega)).symm (by omega)) ?_
  refine VO.val rfl rfl (OpV.loadK_at rfl hB OutW.no Tryz.isAgg137 Tryz.sizeOf137 rfl rfl) ?_
  refine VO.mv rfl rfl rfl rfl ?_
  refine VO.op rfl (OpE.callF rfl hB rfl hcall rfl rfl (hF _) ?_)
  rintro _ rfl
  refine VO.val rfl rfl (OpV.lss rfl rfl rfl) ?_
  refine VO.nil ?_
  refine VC.cond rfl (fun hcb => ?_) (fun hcb => ?_)
  ·have hc := hcb
   try simp only [qqT, qqF, qqN, qqM, qqL, qqE] at hc
   refine VC.region ?_
   refine VO.mv rfl rfl rfl rfl ?_
   refine VO.val rfl rfl (OpV.add rfl rfl rfl (by unfold fits; omega)) ?_
   refine VO.ma rfl rfl rfl rfl ?_
   refine VO.nil ?_
   exact Exists.intro (⟨((((i : Int) + j) / 2).toNat + 1, j), bsf_lo hhi (by omega) hc, h2, h3⟩) (And.intro (Le.mk hB [] ⟨(by first | rfl | exact congrArg (fun z => some (avI z)) (by omega)), (by first | rfl | exact congrArg (fun z => some (avI z)) (by omega)), rfl, rfl, rfl, rfl, trivial⟩ rfl rfl (Nat.le_refl _)) (by first | omega | (show _ < _; omega) | (simp only []; omega)))
  ·have hc := hcb
   try simp only [qqT, qqF, qqN, qqM, qqL, qqE] at hc
   refine VC.region ?_
   refine VO.mv rfl rfl rfl rfl ?_
   refine VO.ma rfl rfl rfl rfl ?_
   refine VO.nil ?_
   exact Exists.intro (⟨(i, (((i : Int) + j) / 2).toNat), h1, bsf_hi (h := (((i : Int) + j) / 2).toNat) hlo hc, by show _ ≤ xs.length; omega⟩) (And.intro (Le.mk hB [] ⟨(by first | rfl | exact congrArg (fun z => some (avI z)) (by omega)), (by first | rfl | exact congrArg (fun z => some (avI z)) (by omega)), rfl, rfl, rfl, rfl, trivial⟩ rfl rfl (Nat.le_refl _)) (by first | omega | (show _ < _; omega) | (simp only []; omega)))
 ·have aH1 := aH1b
  try simp only [qqT, qqF, qqN, qqM, qqL, qqE] at aH1
  obtain rfl : i = s0 := by omega
  refine VC.exit ?_
  refine VC.sr ?_
  refine VO.mv rfl rfl rfl rfl ?_
  refine VO.mv rfl rfl rfl rfl ?_
  refine VO.mv rfl rfl rfl rfl ?_
  refine VO.val rfl rfl (OpV.lss rfl rfl rfl) ?_
  refine VO.mv rfl rfl rfl rfl ?_
  refine VO.opG rfl rfl rfl rfl (fun aK2b => ?_) (fun aK2b => ?_)
  ·replace aK2b : _ = true := aK2b
   have aK2 := aK2b
   try simp only [qqT, qqF, qqN, qqM, qqL, qqE] at aK2
   refine OpE.val (W := NoB) (OpV.move (.inl rfl) rfl) rfl ?_
   refine VO.opY rfl rfl rfl rfl aK2b ?_
   refine OpE.val (W := NoB) (OpV.move (.inl rfl) rfl) rfl ?_
   refine VO.opY rfl rfl rfl rfl aK2b ?_
   refine OpE.val (W := NoB) (OpV.move (.inl rfl) rfl) rfl ?_
   refine VO.opY rfl rfl rfl rfl aK2b ?_
   refine OpE.val (W := NoB) (OpV.indexAddr_E rfl Tryz.underlying73 Tryz.sizeOf137 rfl rfl rfl (by omega)) rfl ?_
   refine VO.opY rfl rfl rfl rfl aK2b ?_
   refine OpE.val (W := NoB) (OpV.loadK_at rfl hB OutW.no Tryz.isAgg137 Tryz.sizeOf137 rfl rfl) rfl ?_
   refine VO.opY rfl rfl rfl rfl aK2b ?_
   refine OpE.val (W := NoB) (OpV.move (.inl rfl) rfl) rfl ?_
   refine VO.opY rfl rfl rfl rfl aK2b ?_
   refine OpE.callF rfl hB rfl hcall rfl rfl (hF _) ?_
   rintro _ rfl
   refine VO.opY rfl rfl rfl rfl aK2b ?_
   refine OpE.val (W := NoB) (OpV.eql rfl rfl rfl) rfl ?_
   refine VO.val rfl rfl (OpV.pickT rfl rfl rfl rfl aK2b) ?_
   refine VO.ma rfl rfl rfl rfl ?_
   refine VO.ma rfl rfl rfl rfl ?_
   refine VO.nil ?_
   refine VC.ret ?_
   exact Exists.intro _ (And.intro (RetN.two Tryz.results324 (ResN.v rfl) (ResN.v rfl)) (by first | (rw [decide_eq_true (show i < xs.length by omega)]; rfl) | (rw [decide_eq_false (show ¬ i < xs.length by omega)]; rfl)))
  ·replace aK2b : _ = false := aK2b
   have aK2 := aK2b
   try simp only [qqT, qqF, qqN, qqM, qqL, qqE] at aK2
   refine VO.opX rfl rfl rfl rfl aK2b ?_
   refine VO.opX rfl rfl rfl rfl aK2b ?_
   refine VO.opX rfl rfl rfl rfl aK2b ?_
   refine VO.opX rfl rfl rfl rfl aK2b ?_
   refine VO.opX rfl rfl rfl rfl aK2b ?_
   refine VO.opX rfl rfl rfl rfl aK2b ?_
   refine VO.opX rfl rfl rfl rfl aK2b ?_
   refine VO.val rfl rfl (OpV.pickF rfl rfl rfl rfl aK2b) ?_
   refine VO.ma rfl rfl rfl rfl ?_
   refine VO.ma rfl rfl rfl rfl ?_
   refine VO.nil ?_
   refine VC.ret ?_
   exact Exists.intro _ (And.intro (RetN.two Tryz.results324 (ResN.v rfl) (ResN.v rfl)) (by first | (rw [decide_eq_true (show i < xs.length by omega)]; rfl) | (rw [decide_eq_false (show ¬ i < xs.length by omega)]; rfl)))
set_option maxRecDepth 100000 in
theorem plan_paceOf {p : List PaceS} {k : ByteArray} (hl : p.length ≤ 1000000) (hr : RiseK PaceS.product p) :
  Spec Tryz.prog 265 [avL p, avS k] (fun y => y = .tup [avPc (paceO p k), avB (hasP p k)]) := by
 refine Spec.of_VC Tryz.func265 rfl Tryz.ntmps265 (Nle rfl) fun w A hB => ?_
 have hnew : True := trivial
 refine VC.sr ?_
 refine VO.op rfl (OpE.alloc rfl hB rfl Tryz.zeroValue137 rfl ?_)
 intro g4
 refine VO.ma rfl rfl rfl rfl ?_
 refine VO.nil ?_
 refine VC.sr ?_
 refine VO.mv rfl rfl rfl rfl ?_
 refine VO.mv rfl rfl rfl rfl ?_
 refine VO.op rfl (OpE.callL rfl hB rfl Tryz.call324 (bsf_pace (c := fun x => cmpB x.product k) (s0 := lowK PaceS.product p k) hl Tryz.call325 (fun x => plan_paceOf1.spec) lowK_le (lowK_cmp hr).1 (lowK_cmp hr).2) (ArgsP.cons (ArgP.ev rfl) (ArgsP.cons (ArgP.ev rfl) (ArgsP.cons (ArgP.fn0 rfl) (ArgsP.nil)))) ?_)
 rintro _ rfl
 refine VO.mv rfl rfl rfl rfl ?_
 refine VO.val rfl rfl (OpV.extract rfl rfl rfl) ?_
 refine VO.val rfl rfl (OpV.extract rfl rfl rfl) ?_
 refine VO.le _ (Le.recast (t := 13) (y := avB (hasP p k)) rfl (fun w Z u h => by rw [hasP, ← lowK_any hr, ← cmp_zero]; exact h)) ?_
 have hle := lowK_le (key := PaceS.product) (l := p) (k := k)
 refine VO.ma rfl rfl rfl rfl ?_
 refine VO.ma rfl rfl rfl rfl ?_
 refine VO.nil ?_
 refine VC.seq ?_
 refine VC.sr ?_
 refine VO.mv rfl rfl rfl rfl ?_
 refine VO.val rfl rfl (OpV.not rfl rfl) ?_
 refine VO.nil ?_
 refine VC.cond rfl (fun h0b => ?_) (fun h0b => ?_)
 ·have h0 := h0b
  try simp only [qqT, qqF, qqN, qqM, qqL, qqE] at h0
  refine VC.sr ?_
  refine VO.val rfl rfl (OpV.build (pls := #[(0, 1), (1, 1), (2, 1)]) rfl Tryz.zeroValue137 Tryz.underlying137 (fun w => by kernel_rfl) rfl rfl) ?_
  refine VO.le _ (Le.recast (t := 16) (y := avPc default) rfl (fun w Z u h => nil_pace h)) ?_
  refine VO.op rfl (OpE.store (i := 0) rfl hB rfl Tryz.sizeOf137 rfl rfl rfl rfl rfl rfl (Nle rfl) trivial ?_)
  refine VO.ma rfl rfl rfl rfl ?_
  refine VO.nil ?_
  refine VC.ret ?_
  exact Exists.intro _ (And.intro (RetV.two Tryz.results265 ((by first | exact ResV.cellK (i := 0) Tryz.isAgg137 Tryz.sizeOf137 rfl rfl rfl)) (ResV.tmp rfl)) (by rw [h0, paceO, find_none' h0]; rfl))
 ·have h0 := h0b
  try simp only [qqT, qqF, qqN, qqM, qqL, qqE] at h0
  have h1 := (lowK_any hr (k := k)).trans h0
  rw [Bool.and_eq_true, decide_eq_true_eq] at h1
  refine VC.skip ?_
  refine VC.sr ?_
  refine VO.mv rfl rfl rfl rfl ?_
  refine VO.mv rfl rfl rfl rfl ?_
  refine VO.val rfl rfl (OpV.indexAddr_E rfl Tryz.underlying73 Tryz.sizeOf137 rfl rfl rfl (by omega)) ?_
  refine VO.val rfl rfl (OpV.loadK_at rfl hB OutW.no Tryz.isAgg137 Tryz.sizeOf137 rfl rfl) ?_
  refine VO.op rfl (OpE.store (i := 0) rfl hB rfl Tryz.sizeOf137 rfl rfl rfl rfl rfl rfl (Nle rfl) trivial ?_)
  refine VO.ma rfl rfl rfl rfl ?_
  refine VO.nil ?_
  refine VC.ret ?_
  exact Exists.intro _ (And.intro (RetV.two Tryz.results265 ((by first | exact ResV.cellK (i := 0) Tryz.isAgg137 Tryz.sizeOf137 rfl rfl rfl)) (ResV.tmp rfl)) (by rw [h0, paceO, lowK_find hr h1.1 h1.2]; rfl))
set_option maxRecDepth 100000 in
set_option maxHeartbeats 4000000 in
theorem plan_fault {p : List PaceS} {o : List OrdrS} (hp : SmPc p) (ho : SmOr o) :
  SpecN Tryz.prog 147 [avL p, avL o] (fun y => y = avI (bothF p o)) := by
 refine SpecN.of_VCN Tryz.func147 rfl Tryz.ntmps147 (Nle rfl) fun w A hB => ?_
 have hnew : True := trivial
 refine VC.seq ?_
 have hl := hp.len
 have hl2 := ho.len
 refine VC.region ?_
 refine VO.ma rfl rfl rfl rfl ?_
 refine VO.nil ?_
 refine VC.seq ?_
 refine VC.sr ?_
 refine VO.mv rfl rfl rfl rfl ?_
 refine VO.op rfl (OpE.call rfl hB rfl Tryz.call58 rfl (SpecN.spec (plan_CheckPaces hp)) ?_)
 rintro _ rfl
 refine VO.ma rfl rfl rfl rfl ?_
 refine VO.nil ?_
 refine VC.sr ?_
 refine VO.mv rfl rfl rfl rfl ?_
 refine VO.val rfl rfl (OpV.neq rfl rfl rfl) ?_
 refine VO.nil ?_
 refine VC.cond rfl (fun h0b => ?_) (fun h0b => ?_)
 ·have h0 := h0b
  try simp only [qqT, qqF, qqN, qqM, qqL, qqE] at h0
  refine VC.sr ?_
  refine VO.mv rfl rfl rfl rfl ?_
  refine VO.ma rfl rfl rfl rfl ?_
  refine VO.nil ?_
  refine VC.ret ?_
  exact Exists.intro _ (And.intro (RetN.one Tryz.results147 (ResN.v rfl)) (by rw [bothF_1 h0]))
 ·have h0 := h0b
  try simp only [qqT, qqF, qqN, qqM, qqL, qqE] at h0
  refine VC.skip ?_
  refine VC.seq ?_
  refine VC.sr ?_
  refine VO.mv rfl rfl rfl rfl ?_
  refine VO.op rfl (OpE.call rfl hB rfl Tryz.call56 rfl (SpecN.spec (plan_CheckOrders ho)) ?_)
  rintro _ rfl
  refine VO.ma rfl rfl rfl rfl ?_
  refine VO.nil ?_
  refine VC.sr ?_
  refine VO.mv rfl rfl rfl rfl ?_
  refine VO.val rfl rfl (OpV.neq rfl rfl rfl) ?_
  refine VO.nil ?_
  refine VC.cond rfl (fun h1b => ?_) (fun h1b => ?_)
  ·have h1 := h1b
   try simp only [qqT, qqF, qqN, qqM, qqL, qqE] at h1
   refine VC.sr ?_
   refine VO.mv rfl rfl rfl rfl ?_
   refine VO.ma rfl rfl rfl rfl ?_
   refine VO.nil ?_
   refine VC.ret ?_
   exact Exists.intro _ (And.intro (RetN.one Tryz.results147 (ResN.v rfl)) (by rw [bothF_2 (by omega) h1]))
  ·have h1 := h1b
   try simp only [qqT, qqF, qqN, qqM, qqL, qqE] at h1
   refine VC.skip ?_
   refine VC.seq ?_
   refine VC.sr ?_
   refine VO.mv rfl rfl rfl rfl ?_
   refine VO.val rfl rfl (OpV.len_im rfl Tryz.underlying75 rfl) ?_
   refine VO.mv rfl rfl rfl rfl ?_
   refine VO.nil ?_
   refine VC.block ?_
   refine VC.loopK [(0, _), (21, _), (22, _)] ⟨rfl, rfl, rfl, trivial⟩ ({q : Nat // q ≤ o.length ∧ ∀ j, j < q → hasP p (o.getD j default).product = true}) (fun (iZ : {q : Nat // q ≤ o.length ∧ ∀ j, j < q → hasP p (o.getD j default).product = true}) => match iZ with | ⟨q, hq, hn⟩ => [(23, avI (q : Int))]) (fun (iZ : {q : Nat // q ≤ o.length ∧ ∀ j, j < q → hasP p (o.getD j default).product = true}) => match iZ with | ⟨q, hq, hn⟩ => []) (fun (iZ : {q : Nat // q ≤ o.length ∧ ∀ j, j < q → hasP p (o.getD j default).product = true}) => match iZ with | ⟨q, hq, hn⟩ => 0) (fun (iZ : {q : Nat // q ≤ o.length ∧ ∀ j, j < q → hasP p (o.getD j default).product = true}) => match iZ with | ⟨q, hq, hn⟩ => o.length - q) ⟨0, Nat.zero_le _, fun j hj => absurd hj (Nat.not_lt_zero j)⟩ (Le.mk hB [] ⟨rfl, rfl, rfl, rfl, trivial⟩ rfl rfl (Nat.le_refl _)) ?_
   rintro ⟨q, hq, hn⟩
   show VC _ _ _ _ ⟨[(23, avI (q : Int))] ++ [(0, _), (21, _), (22, _)], [], 0⟩
   refine VC.sr ?_
   refine VO.val rfl rfl (OpV.lss rfl rfl rfl) ?_
   refine VO.nil ?_
   refine VC.seq ?_
   refine VC.cond rfl (fun aH1b => ?_) (fun aH1b => ?_)
   ·have aH1 := aH1b
    try simp only [qqT, qqF, qqN, qqM, qqL, qqE] at aH1
    refine VC.skip ?_
    refine VC.seq ?_
    refine VC.block ?_
    refine VC.sr ?_
    refine VO.val rfl rfl (OpV.indexAddr_E rfl Tryz.underlying75 Tryz.sizeOf89 rfl rfl rfl (by omega)) ?_
    refine VO.val rfl rfl (OpV.loadK_at rfl hB OutW.no Tryz.isAgg89 Tryz.sizeOf89 rfl rfl) ?_
    refine VO.op rfl (OpE.alloc rfl hB rfl Tryz.zeroValue89 rfl ?_)
    intro g8
    refine VO.op rfl (OpE.store (i := 0) rfl hB rfl Tryz.sizeOf89 rfl rfl rfl rfl rfl rfl (Nle rfl) trivial ?_)
    refine VO.nil ?_
    refine VC.sr ?_
    refine VO.mv rfl rfl rfl rfl ?_
    refine VO.val rfl rfl (OpV.fieldAddrO 1 rfl Tryz.underlying89 rfl rfl Tryz.sizeOf9 rfl) ?_
    refine VO.val rfl rfl (OpV.load_own (i := 0) rfl hB Tryz.isAgg9 rfl rfl rfl (fun h => h)) ?_
    refine VO.op rfl (OpE.call rfl hB rfl Tryz.call265 rfl (plan_paceOf (k := (o.getD q default).product) (by omega) (pace_rise (pacesOk (by omega)))) ?_)
    rintro _ rfl
    refine VO.mv rfl rfl rfl rfl ?_
    refine VO.val rfl rfl (OpV.extract rfl rfl rfl) ?_
    refine VO.val rfl rfl (OpV.extract rfl rfl rfl) ?_
    refine VO.op rfl (OpE.alloc rfl hB rfl Tryz.zeroValue137 rfl ?_)
    intro g9
    refine VO.op rfl (OpE.store (i := 1) rfl hB rfl Tryz.sizeOf137 rfl rfl rfl rfl rfl rfl (Nle rfl) trivial ?_)
    refine VO.ma rfl rfl rfl rfl ?_
    refine VO.nil ?_
    refine VC.sr ?_
    refine VO.mv rfl rfl rfl rfl ?_
    refine VO.val rfl rfl (OpV.not rfl rfl) ?_
    refine VO.nil ?_
    refine VC.cond rfl (fun h3b => ?_) (fun h3b => ?_)
    ·have h3 := h3b
     try simp only [qqT, qqF, qqN, qqM, qqL, qqE] at h3
     refine VC.sr ?_
     refine VO.ma rfl rfl rfl rfl ?_
     refine VO.nil ?_
     refine VC.ret ?_
     exact Exists.intro _ (And.intro (RetN.one Tryz.results147 (ResN.v rfl)) (by rw [bothF_3 (by omega) (by omega), if_neg (by rw [all_no (d := default) (q := q) (by omega) h3]; simp)]))
    ·have h3 := h3b
     try simp only [qqT, qqF, qqN, qqM, qqL, qqE] at h3
     refine VC.skip ?_
     refine VC.region ?_
     refine VO.val rfl rfl (OpV.add rfl rfl rfl (by unfold fits; omega)) ?_
     refine VO.mv rfl rfl rfl rfl ?_
     refine VO.nil ?_
     exact Exists.intro (⟨q + 1, by omega, lt_succ_cases hn (h3)⟩) (And.intro (Le.mk hB [] ⟨rfl, rfl, rfl, rfl, trivial⟩ rfl rfl (Nat.le_refl _)) (by first | omega | (show _ < _; omega) | (simp only []; omega)))
   ·have aH1 := aH1b
    try simp only [qqT, qqF, qqN, qqM, qqL, qqE] at aH1
    refine VC.exit ?_
    refine VC.sr ?_
    refine VO.ma rfl rfl rfl rfl ?_
    refine VO.nil ?_
    refine VC.ret ?_
    exact Exists.intro _ (And.intro (RetN.one Tryz.results147 (ResN.v rfl)) (by rw [bothF_3 (by omega) (by omega), if_pos (all_yes (d := default) (fun j hj => hn j (by omega)))]))
set_option maxRecDepth 100000 in
set_option maxHeartbeats 4000000 in
theorem plan_scheduleFault {o : List OrdrS} {l : List Int} (ho : o.length ≤ 1000000) (hl : l.length ≤ 1000000) :
  SpecN Tryz.prog 291 [avL o, avInts l] (fun y => y = avI (schF o.length l)) := by
 refine SpecN.of_VCN Tryz.func291 rfl Tryz.ntmps291 (Nle rfl) fun w A hB => ?_
 have hnew : True := trivial
 refine VC.sr ?_
 refine VO.ma rfl rfl rfl rfl ?_
 refine VO.nil ?_
 refine VC.seq ?_
 refine VC.sr ?_
 refine VO.mv rfl rfl rfl rfl ?_
 refine VO.val rfl rfl (OpV.len_im rfl Tryz.underlying22 rfl) ?_
 refine VO.mv rfl rfl rfl rfl ?_
 refine VO.val rfl rfl (OpV.len_im rfl Tryz.underlying75 rfl) ?_
 refine VO.val rfl rfl (OpV.neq rfl rfl rfl) ?_
 refine VO.nil ?_
 refine VC.cond rfl (fun aH1b => ?_) (fun aH1b => ?_)
 ·have aH1 := aH1b
  try simp only [qqT, qqF, qqN, qqM, qqL, qqE] at aH1
  refine VC.sr ?_
  refine VO.ma rfl rfl rfl rfl ?_
  refine VO.nil ?_
  refine VC.ret ?_
  exact Exists.intro _ (And.intro (RetN.one Tryz.results291 (ResN.v rfl)) (by rw [schF_len (by omega)]))
 ·have aH1 := aH1b
  try simp only [qqT, qqF, qqN, qqM, qqL, qqE] at aH1
  refine VC.skip ?_
  refine VC.sr ?_
  refine VO.mv rfl rfl rfl rfl ?_
  refine VO.val rfl rfl (OpV.len_im rfl Tryz.underlying75 rfl) ?_
  refine VO.op rfl (OpE.make rfl hB rfl Tryz.underlying354 (infoOf Tryz.t4 1 (by kernel_rfl) rfl rfl) (by decide) rfl rfl (n := o.length) rfl rfl (by omega) (usedL_make rfl) ?_)
  intro g15
  rw [usedL_len]
  refine VO.ma rfl rfl rfl rfl ?_
  refine VO.nil ?_
  refine VC.seq ?_
  refine VC.sr ?_
  refine VO.mv rfl rfl rfl rfl ?_
  refine VO.val rfl rfl (OpV.len_im rfl Tryz.underlying22 rfl) ?_
  refine VO.mv rfl rfl rfl rfl ?_
  refine VO.nil ?_
  refine VC.block ?_
  refine VC.loopK [(0, _), (5, _), (16, _), (17, _)] ⟨rfl, rfl, rfl, rfl, trivial⟩ ({q : Nat // q ≤ l.length ∧ Ord o.length (l.take q)}) (fun (iZ : {q : Nat // q ≤ l.length ∧ Ord o.length (l.take q)}) => match iZ with | ⟨q, hq, hn⟩ => [(18, avI (q : Int))]) (fun (iZ : {q : Nat // q ≤ l.length ∧ Ord o.length (l.take q)}) => match iZ with | ⟨q, hq, hn⟩ => [.box g15 ⟨usedL o.length (l.take q), 4, o.length⟩]) (fun (iZ : {q : Nat // q ≤ l.length ∧ Ord o.length (l.take q)}) => match iZ with | ⟨q, hq, hn⟩ => 0) (fun (iZ : {q : Nat // q ≤ l.length ∧ Ord o.length (l.take q)}) => match iZ with | ⟨q, hq, hn⟩ => l.length - q) ⟨0, Nat.zero_le _, Ord.nil _⟩ (Le.mk hB [0] ⟨rfl, rfl, rfl, rfl, rfl, trivial⟩ rfl rfl (Nat.le_refl _)) ?_
  rintro ⟨q, hq, hn⟩
  show VC _ _ _ _ ⟨[(18, avI (q : Int))] ++ [(0, _), (5, _), (16, _), (17, _)], [.box g15 ⟨usedL o.length (l.take q), 4, o.length⟩], 0⟩
  refine VC.sr ?_
  refine VO.val rfl rfl (OpV.lss rfl rfl rfl) ?_
  refine VO.nil ?_
  refine VC.seq ?_
  refine VC.cond rfl (fun aH2b => ?_) (fun aH2b => ?_)
  ·have aH2 := aH2b
   try simp only [qqT, qqF, qqN, qqM, qqL, qqE] at aH2
   refine VC.skip ?_
   refine VC.seq ?_
   refine VC.block ?_
   refine VC.sr ?_
   refine VO.val rfl rfl (OpV.indexAddr_1 rfl Tryz.underlying22 Tryz.sizeOf3 rfl rfl rfl (by omega)) ?_
   refine VO.val rfl rfl (OpV.load_at rfl hB OutW.no Tryz.isAgg3 rfl rfl) ?_
   refine VO.ma rfl rfl rfl rfl ?_
   refine VO.nil ?_
   refine VC.seq ?_
   refine VC.sr ?_
   refine VO.mv rfl rfl rfl rfl ?_
   refine VO.val rfl rfl (OpV.lss rfl rfl rfl) ?_
   refine VO.mv rfl rfl rfl rfl ?_
   refine VO.opG rfl rfl rfl rfl (fun aK3b => ?_) (fun aK3b => ?_)
   ·replace aK3b : _ = false := aK3b
    have aK3 := aK3b
    try simp only [qqT, qqF, qqN, qqM, qqL, qqE] at aK3
    refine OpE.val (W := NoB) (OpV.move (.inl rfl) rfl) rfl ?_
    refine VO.opY rfl rfl rfl rfl aK3b ?_
    refine OpE.val (W := NoB) (OpV.move (.inl rfl) rfl) rfl ?_
    refine VO.opY rfl rfl rfl rfl aK3b ?_
    refine OpE.val (W := NoB) (OpV.len_im rfl Tryz.underlying75 rfl) rfl ?_
    refine VO.opY rfl rfl rfl rfl aK3b ?_
    refine OpE.val (W := NoB) (OpV.geq rfl rfl rfl) rfl ?_
    refine VO.val rfl rfl (OpV.pickF rfl rfl rfl rfl aK3b) ?_
    refine VO.mv rfl rfl rfl rfl ?_
    refine VO.opG rfl rfl rfl rfl (fun aK4b => ?_) (fun aK4b => ?_)
    ·replace aK4b : _ = false := aK4b
     have aK4 := aK4b
     try simp only [qqT, qqF, qqN, qqM, qqL, qqE] at aK4
     refine OpE.val (W := NoB) (OpV.move (.inl rfl) rfl) rfl ?_
     refine VO.opY rfl rfl rfl rfl aK4b ?_
     refine OpE.val (W := NoB) (OpV.move (.inl rfl) rfl) rfl ?_
     refine VO.opY rfl rfl rfl rfl aK4b ?_
     refine OpE.val (W := NoB) (OpV.indexAddr_o rfl Tryz.underlying354 Tryz.sizeOf4 rfl rfl (show l.getD q 0 = (((l.getD q 0).toNat : Nat) : Int) by omega) (by omega)) rfl ?_
     refine VO.opY rfl rfl rfl rfl aK4b ?_
     refine OpE.val (W := NoB) (OpV.load_own (i := 0) rfl hB Tryz.isAgg4 rfl rfl (usedL_get (q := (l.getD q 0).toNat) (by omega)) (fun h => h)) rfl ?_
     refine VO.le _ (Le.recast (t := 34) (y := avB (decide (l.getD q 0 ∈ l.take q))) rfl (fun w Z u h => by rw [Int.toNat_of_nonneg (by omega)] at h; exact h)) ?_
     refine VO.val rfl rfl (OpV.pickF rfl rfl rfl rfl aK4b) ?_
     refine VO.nil ?_
     refine VC.cond rfl (fun hxb => ?_) (fun hxb => ?_)
     ·have hx := hxb
      try simp only [qqT, qqF, qqN, qqM, qqL, qqE] at hx
      refine VC.sr ?_
      refine VO.ma rfl rfl rfl rfl ?_
      refine VO.nil ?_
      refine VC.ret ?_
      exact Exists.intro _ (And.intro (RetN.one Tryz.results291 (ResN.v rfl)) (by first | rw [schF_out (q := q) (by omega) (by omega)] | rw [schF_twice (q := q) (by omega) (by assumption)]))
     ·have hx := hxb
      try simp only [qqT, qqF, qqN, qqM, qqL, qqE] at hx
      have hx' : l.getD q 0 ∉ l.take q := by assumption
      refine VC.skip ?_
      refine VC.region ?_
      refine VO.mv rfl rfl rfl rfl ?_
      refine VO.mv rfl rfl rfl rfl ?_
      refine VO.val rfl rfl (OpV.indexAddr_o rfl Tryz.underlying354 Tryz.sizeOf4 rfl rfl (show l.getD q 0 = (((l.getD q 0).toNat : Nat) : Int) by omega) (by omega)) ?_
      refine VO.op rfl (OpE.store1 (i := 0) rfl hB rfl Tryz.sizeOf4 rfl rfl rfl rfl rfl rfl (by rw [usedL_len]; omega) (usedL_take (by omega) (by omega) (by omega)) trivial ?_)
      refine VO.nil ?_
      refine VC.region ?_
      refine VO.val rfl rfl (OpV.add rfl rfl rfl (by unfold fits; omega)) ?_
      refine VO.mv rfl rfl rfl rfl ?_
      refine VO.nil ?_
      exact Exists.intro (⟨q + 1, by omega, Ord.take hn (by omega) (by omega) (by omega) hx'⟩) (And.intro (Le.mk hB [0] ⟨rfl, rfl, rfl, rfl, rfl, trivial⟩ rfl rfl (Nat.le_refl _)) (by first | omega | (show _ < _; omega) | (simp only []; omega)))
    ·replace aK4b : _ = true := aK4b
     have aK4 := aK4b
     try simp only [qqT, qqF, qqN, qqM, qqL, qqE] at aK4
     refine VO.opX rfl rfl rfl rfl aK4b ?_
     refine VO.opX rfl rfl rfl rfl aK4b ?_
     refine VO.opX rfl rfl rfl rfl aK4b ?_
     refine VO.val rfl rfl (OpV.pickT rfl rfl rfl rfl aK4b) ?_
     refine VO.nil ?_
     refine VC.condT rfl rfl ?_
     refine VC.sr ?_
     refine VO.ma rfl rfl rfl rfl ?_
     refine VO.nil ?_
     refine VC.ret ?_
     exact Exists.intro _ (And.intro (RetN.one Tryz.results291 (ResN.v rfl)) (by first | rw [schF_out (q := q) (by omega) (by omega)] | rw [schF_twice (q := q) (by omega) (by assumption)]))
   ·replace aK3b : _ = true := aK3b
    have aK3 := aK3b
    try simp only [qqT, qqF, qqN, qqM, qqL, qqE] at aK3
    refine VO.opX rfl rfl rfl rfl aK3b ?_
    refine VO.opX rfl rfl rfl rfl aK3b ?_
    refine VO.opX rfl rfl rfl rfl aK3b ?_
    refine VO.val rfl rfl (OpV.pickT rfl rfl rfl rfl aK3b) ?_
    refine VO.mv rfl rfl rfl rfl ?_
    refine VO.opX rfl rfl rfl rfl rfl ?_
    refine VO.opX rfl rfl rfl rfl rfl ?_
    refine VO.opX rfl rfl rfl rfl rfl ?_
    refine VO.opX rfl rfl rfl rfl rfl ?_
    refine VO.val rfl rfl (OpV.pickT rfl rfl rfl rfl rfl) ?_
    refine VO.nil ?_
    refine VC.condT rfl rfl ?_
    refine VC.sr ?_
    refine VO.ma rfl rfl rfl rfl ?_
    refine VO.nil ?_
    refine VC.ret ?_
    exact Exists.intro _ (And.intro (RetN.one Tryz.results291 (ResN.v rfl)) (by first | rw [schF_out (q := q) (by omega) (by omega)] | rw [schF_twice (q := q) (by omega) (by assumption)]))
  ·have aH2 := aH2b
   try simp only [qqT, qqF, qqN, qqM, qqL, qqE] at aH2
   refine VC.exit ?_
   refine VC.sr ?_
   refine VO.ma rfl rfl rfl rfl ?_
   refine VO.nil ?_
   refine VC.ret ?_
   exact Exists.intro _ (And.intro (RetN.one Tryz.results291 (ResN.v rfl)) (by rw [schF_ok (by omega) (by rwa [List.take_of_length_le (by omega)] at hn)]))
set_option maxRecDepth 100000 in
theorem plan_numbersFault {s e : Int}  :
  SpecN Tryz.prog 292 [avI s, avI e] (fun y => y = avI (startF s e)) := by
 refine SpecN.of_VCN Tryz.func292 rfl Tryz.ntmps292 (Nle rfl) fun w A hB => ?_
 have hnew : True := trivial
 refine VC.sr ?_
 refine VO.ma rfl rfl rfl rfl ?_
 refine VO.nil ?_
 refine VC.seq ?_
 refine VC.sr ?_
 refine VO.mv rfl rfl rfl rfl ?_
 refine VO.op rfl (OpE.call rfl hB rfl Tryz.call117 rfl (SpecN.spec (kit_IsMoment)) ?_)
 rintro _ rfl
 refine VO.val rfl rfl (OpV.not rfl rfl) ?_
 refine VO.mv rfl rfl rfl rfl ?_
 refine VO.opG rfl rfl rfl rfl (fun aK1b => ?_) (fun aK1b => ?_)
 ·replace aK1b : _ = false := aK1b
  have aK1 := aK1b
  try simp only [qqT, qqF, qqN, qqM, qqL, qqE] at aK1
  refine OpE.val (W := NoB) (OpV.move (.inl rfl) rfl) rfl ?_
  refine VO.opY rfl rfl rfl rfl aK1b ?_
  refine OpE.call rfl hB rfl Tryz.call119 rfl (SpecN.spec (kit_Outside)) ?_
  rintro _ rfl
  refine VO.val rfl rfl (OpV.pickF rfl rfl rfl rfl aK1b) ?_
  refine VO.nil ?_
  refine VC.cond rfl (fun aH2b => ?_) (fun aH2b => ?_)
  ·have aH2 := aH2b
   try simp only [qqT, qqF, qqN, qqM, qqL, qqE] at aH2
   refine VC.sr ?_
   refine VO.ma rfl rfl rfl rfl ?_
   refine VO.nil ?_
   refine VC.ret ?_
   exact Exists.intro _ (And.intro (RetN.one Tryz.results292 (ResN.v rfl)) (by rw [startF, if_pos (by first | exact or2a (by assumption) | exact or2b (by assumption))]))
  ·have aH2 := aH2b
   try simp only [qqT, qqF, qqN, qqM, qqL, qqE] at aH2
   refine VC.skip ?_
   refine VC.sr ?_
   refine VO.ma rfl rfl rfl rfl ?_
   refine VO.nil ?_
   refine VC.ret ?_
   exact Exists.intro _ (And.intro (RetN.one Tryz.results292 (ResN.v rfl)) (by rw [startF, if_neg (by rw [or2f (by assumption) (by assumption)]; simp)]))
 ·replace aK1b : _ = true := aK1b
  have aK1 := aK1b
  try simp only [qqT, qqF, qqN, qqM, qqL, qqE] at aK1
  refine VO.opX rfl rfl rfl rfl aK1b ?_
  refine VO.val rfl rfl (OpV.pickT rfl rfl rfl rfl aK1b) ?_
  refine VO.nil ?_
  refine VC.condT rfl rfl ?_
  refine VC.sr ?_
  refine VO.ma rfl rfl rfl rfl ?_
  refine VO.nil ?_
  refine VC.ret ?_
  exact Exists.intro _ (And.intro (RetN.one Tryz.results292 (ResN.v rfl)) (by rw [startF, if_pos (by first | exact or2a (by assumption) | exact or2b (by assumption))]))
set_option maxRecDepth 100000 in
theorem slices_IndexFunc_need {xs : List NeedS} {F : FuncId} {cs : List AV} {p : NeedS → Bool} (hl : xs.length ≤ 1000000000) (hcall : ∀ us w, (callFunc F us).run Tryz.prog w = .ok (.enter F us) w) (hF : ∀ x, Spec Tryz.prog F ([avT x] ++ cs) (fun y => y = avB (p x))) :
  SpecN Tryz.prog 270 [avL xs, .fn F cs] (fun y => y = avI (fidx p xs)) := by
 refine SpecN.of_VCN Tryz.func270 rfl Tryz.ntmps270 (Nle rfl) fun w A hB => ?_
 have hnew : True := trivial
 refine VC.sr ?_
 refine VO.ma rfl rfl rfl rfl ?_
 refine VO.nil ?_
 refine VC.seq ?_
 refine VC.sr ?_
 refine VO.mv rfl rfl rfl rfl ?_
 refine VO.val rfl rfl (OpV.len_im rfl Tryz.underlying77 rfl) ?_
 refine VO.mv rfl rfl rfl rfl ?_
 refine VO.nil ?_
 refine VC.block ?_
 refine VC.loopK [(0, _), (1, _), (7, _)] ⟨rfl, rfl, rfl, trivial⟩ ({q : Nat // q ≤ xs.length ∧ ∀ j, j < q → p (xs.getD j default) = false}) (fun (iZ : {q : Nat // q ≤ xs.length ∧ ∀ j, j < q → p (xs.getD j default) = false}) => match iZ with | ⟨q, hq, hn⟩ => [(8, avI (q : Int))]) (fun (iZ : {q : Nat // q ≤ xs.length ∧ ∀ j, j < q → p (xs.getD j default) = false}) => match iZ with | ⟨q, hq, hn⟩ => []) (fun (iZ : {q : Nat // q ≤ xs.length ∧ ∀ j, j < q → p (xs.getD j default) = false}) => match iZ with | ⟨q, hq, hn⟩ => 0) (fun (iZ : {q : Nat // q ≤ xs.length ∧ ∀ j, j < q → p (xs.getD j default) = false}) => match iZ with | ⟨q, hq, hn⟩ => xs.length - q) ⟨0, Nat.zero_le _, fun j hj => absurd hj (Nat.not_lt_zero j)⟩ (Le.mk hB [] ⟨rfl, rfl, rfl, rfl, trivial⟩ rfl rfl (Nat.le_refl _)) ?_
 rintro ⟨q, hq, hn⟩
 show VC _ _ _ _ ⟨[(8, avI (q : Int))] ++ [(0, _), (1, _), (7, _)], [], 0⟩
 refine VC.sr ?_
 refine VO.val rfl rfl (OpV.lss rfl rfl rfl) ?_
 refine VO.nil ?_
 refine VC.seq ?_
 refine VC.cond rfl (fun aH1b => ?_) (fun aH1b => ?_)
 ·have aH1 := aH1b
  try simp only [qqT, qqF, qqN, qqM, qqL, qqE] at aH1
  refine VC.skip ?_
  refine VC.seq ?_
  refine VC.block ?_
  refine VC.sr ?_
  refine VO.mv rfl rfl rfl rfl ?_
  refine VO.ma rfl rfl rfl rfl ?_
  refine VO.nil ?_
  refine VC.sr ?_
  refine VO.mv rfl rfl rfl rfl ?_
  refine VO.mv rfl rfl rfl rfl ?_
  refine VO.mv rfl rfl rfl rfl ?_
  refine VO.val rfl rfl (OpV.indexAddr_E rfl Tryz.underlying77 Tryz.sizeOf96 rfl rfl rfl (by omega)) ?_
  refine VO.val rfl rfl (OpV.loadK_at rfl hB OutW.no Tryz.isAgg96 Tryz.sizeOf96 rfl rfl) ?_
  refine VO.op rfl (OpE.callF rfl hB rfl hcall rfl rfl (hF _) ?_)
  rintro _ rfl
  refine VO.nil ?_
  refine VC.cond rfl (fun aH2b => ?_) (fun aH2b => ?_)
  ·have aH2 := aH2b
   try simp only [qqT, qqF, qqN, qqM, qqL, qqE] at aH2
   refine VC.sr ?_
   refine VO.mv rfl rfl rfl rfl ?_
   refine VO.ma rfl rfl rfl rfl ?_
   refine VO.nil ?_
   refine VC.ret ?_
   exact Exists.intro _ (And.intro (RetN.one Tryz.results270 (ResN.v rfl)) (by first | (rw [fidx_found (d := default) (q := q) (by omega) hn (by assumption)]) | (rw [fidx_none (d := default) (fun j hj => hn j (by omega))])))
  ·have aH2 := aH2b
   try simp only [qqT, qqF, qqN, qqM, qqL, qqE] at aH2
   refine VC.skip ?_
   refine VC.region ?_
   refine VO.val rfl rfl (OpV.add rfl rfl rfl (by unfold fits; omega)) ?_
   refine VO.mv rfl rfl rfl rfl ?_
   refine VO.nil ?_
   exact Exists.intro (⟨q + 1, by omega, lt_succ_cases hn ((by assumption))⟩) (And.intro (Le.mk hB [] ⟨rfl, rfl, rfl, rfl, trivial⟩ rfl rfl (Nat.le_refl _)) (by first | omega | (show _ < _; omega) | (simp only []; omega)))
 ·have aH1 := aH1b
  try simp only [qqT, qqF, qqN, qqM, qqL, qqE] at aH1
  refine VC.exit ?_
  refine VC.sr ?_
  refine VO.ma rfl rfl rfl rfl ?_
  refine VO.nil ?_
  refine VC.ret ?_
  exact Exists.intro _ (And.intro (RetN.one Tryz.results270 (ResN.v rfl)) (by first | (rw [fidx_found (d := default) (q := q) (by omega) hn (by assumption)]) | (rw [fidx_none (d := default) (fun j hj => hn j (by omega))])))
set_option maxRecDepth 100000 in
theorem slices_ContainsFunc_need {xs : List NeedS} {F : FuncId} {cs : List AV} {p : NeedS → Bool} (hl : xs.length ≤ 1000000000) (hcall : ∀ us w, (callFunc F us).run Tryz.prog w = .ok (.enter F us) w) (hF : ∀ x, Spec Tryz.prog F ([avT x] ++ cs) (fun y => y = avB (p x))) :
  SpecN Tryz.prog 157 [avL xs, .fn F cs] (fun y => y = avB (xs.any p)) := by
 refine SpecN.of_VCN Tryz.func157 rfl Tryz.ntmps157 (Nle rfl) fun w A hB => ?_
 have hnew : True := trivial
 refine VC.sr ?_
 refine VO.ma rfl rfl rfl rfl ?_
 refine VO.nil ?_
 refine VC.sr ?_
 refine VO.mv rfl rfl rfl rfl ?_
 refine VO.mv rfl rfl rfl rfl ?_
 refine VO.op rfl (OpE.call rfl hB rfl Tryz.call270 rfl (SpecN.spec (slices_IndexFunc_need hl hcall hF)) ?_)
 rintro _ rfl
 refine VO.val rfl rfl (OpV.geq rfl rfl rfl) ?_
 refine VO.ma rfl rfl rfl rfl ?_
 refine VO.nil ?_
 refine VC.ret ?_
 exact Exists.intro _ (And.intro (RetN.one Tryz.results157 (ResN.v rfl)) (by rw [← fidx_any]))
set_option maxRecDepth 100000 in
theorem plan_changeover1 {x o : NeedS}  :
  SpecN Tryz.prog 388 [avT o, .at_ 2 (Sxc.cell x)] (fun y => y = avB (sEq o.key x.key)) := by
 refine SpecN.of_VCN Tryz.func388 rfl Tryz.ntmps388 (Nle rfl) fun w A hB => ?_
 have hnew : True := trivial
 refine VC.sr ?_
 refine VO.op rfl (OpE.box rfl hB rfl rfl rfl ?_)
 intro g2
 refine VO.ma rfl rfl rfl rfl ?_
 refine VO.nil ?_
 refine VC.sr ?_
 refine VO.val rfl rfl (OpV.fieldAddrO 0 rfl Tryz.underlying96 rfl rfl Tryz.sizeOf9 rfl) ?_
 refine VO.val rfl rfl (OpV.load_own (i := 0) rfl hB Tryz.isAgg9 rfl rfl rfl (fun h => h)) ?_
 refine VO.val rfl rfl (OpV.fieldAddr_atO 0 rfl Tryz.underlying96 rfl rfl Tryz.sizeOf9 rfl rfl) ?_
 refine VO.val rfl rfl (OpV.load_at rfl hB OutW.no Tryz.isAgg9 rfl rfl) ?_
 refine VO.val rfl rfl (OpV.seql rfl rfl rfl) ?_
 refine VO.ma rfl rfl rfl rfl ?_
 refine VO.nil ?_
 refine VC.ret ?_
 exact Exists.intro _ (And.intro (RetN.one Tryz.results388 (ResN.v rfl)) (rfl))
set_option maxRecDepth 100000 in
set_option maxHeartbeats 4000000 in
theorem plan_changeover {a b : PaceS} {each : Int} (ha : a.needs.length ≤ 1000000) (hb : b.needs.length ≤ 1000000) (he : 0 ≤ each ∧ each ≤ 10000000) :
  SpecN Tryz.prog 349 [avPc a, avPc b, avI each] (fun y => y = avI (chgI a b each)) := by
 refine SpecN.of_VCN Tryz.func349 rfl Tryz.ntmps349 (Nle rfl) fun w A hB => ?_
 have hnew : True := trivial
 refine VC.sr ?_
 refine VO.op rfl (OpE.box rfl hB rfl rfl rfl ?_)
 intro g3
 refine VO.op rfl (OpE.box rfl hB rfl rfl rfl ?_)
 intro g4
 refine VO.ma rfl rfl rfl rfl ?_
 refine VO.nil ?_
 refine VC.sr ?_
 refine VO.ma rfl rfl rfl rfl ?_
 refine VO.nil ?_
 refine VC.seq ?_
 refine VC.sr ?_
 refine VO.val rfl rfl (OpV.fieldAddrO 2 rfl Tryz.underlying137 rfl rfl Tryz.sizeOf77 rfl) ?_
 refine VO.val rfl rfl (OpV.load_own (i := 1) rfl hB Tryz.isAgg77 rfl rfl rfl (fun h => h)) ?_
 refine VO.val rfl rfl (OpV.len_im rfl Tryz.underlying77 rfl) ?_
 refine VO.mv rfl rfl rfl rfl ?_
 refine VO.nil ?_
 refine VC.block ?_
 refine VC.loopK [(2, _), (3, _), (11, _), (12, _)] ⟨rfl, rfl, rfl, rfl, trivial⟩ ({q : Nat // q ≤ b.needs.length}) (fun (iZ : {q : Nat // q ≤ b.needs.length}) => match iZ with | ⟨q, hq⟩ => [(7, avI (each * (chgN a.needs b.needs q : Int))), (13, avI (q : Int))]) (fun (iZ : {q : Nat // q ≤ b.needs.length}) => match iZ with | ⟨q, hq⟩ => [boxPc g3 a 137]) (fun (iZ : {q : Nat // q ≤ b.needs.length}) => match iZ with | ⟨q, hq⟩ => 0) (fun (iZ : {q : Nat // q ≤ b.needs.length}) => match iZ with | ⟨q, hq⟩ => b.needs.length - q) ⟨0, Nat.zero_le _⟩ (Le.mk hB [0] ⟨(by rw [show chgN a.needs b.needs 0 = 0 by simp [chgN]]; simp; rfl), rfl, rfl, rfl, rfl, rfl, trivial⟩ rfl rfl (Nat.le_refl _)) ?_
 rintro ⟨q, hq⟩
 show VC _ _ _ _ ⟨[(7, avI (each * (chgN a.needs b.needs q : Int))), (13, avI (q : Int))] ++ [(2, _), (3, _), (11, _), (12, _)], [boxPc g3 a 137], 0⟩
 have hcn := chgN_le a.needs b.needs q
 have hcm := mul_bd he.1 he.2 (by omega : (0 : Int) ≤ (chgN a.needs b.needs q : Int)) (by omega : _ ≤ (1000000 : Int))
 refine VC.sr ?_
 refine VO.val rfl rfl (OpV.lss rfl rfl rfl) ?_
 refine VO.nil ?_
 refine VC.seq ?_
 refine VC.cond rfl (fun aH1b => ?_) (fun aH1b => ?_)
 ·have aH1 := aH1b
  try simp only [qqT, qqF, qqN, qqM, qqL, qqE] at aH1
  refine VC.skip ?_
  refine VC.seq ?_
  refine VC.block ?_
  refine VC.sr ?_
  refine VO.val rfl rfl (OpV.indexAddr_E rfl Tryz.underlying77 Tryz.sizeOf96 rfl rfl rfl (by omega)) ?_
  refine VO.val rfl rfl (OpV.loadK_at rfl hB OutW.no Tryz.isAgg96 Tryz.sizeOf96 rfl rfl) ?_
  refine VO.op rfl (OpE.alloc rfl hB rfl Tryz.zeroValue96 rfl ?_)
  intro g9
  refine VO.op rfl (OpE.store (i := 1) rfl hB rfl Tryz.sizeOf96 rfl rfl rfl rfl rfl rfl (Nle rfl) trivial ?_)
  refine VO.nil ?_
  refine VC.sr ?_
  refine VO.val rfl rfl (OpV.fieldAddrO 2 rfl Tryz.underlying137 rfl rfl Tryz.sizeOf77 rfl) ?_
  refine VO.val rfl rfl (OpV.load_own (i := 0) rfl hB Tryz.isAgg77 rfl rfl rfl (fun h => h)) ?_
  refine VO.val rfl rfl (OpV.makeFunc1 rfl rfl) ?_
  refine VO.op rfl (OpE.callL rfl hB rfl Tryz.call157 (slices_ContainsFunc_need (p := fun o => sEq o.key (b.needs.getD q default).key) (by omega) Tryz.call388 (fun x => plan_changeover1.spec)) (ArgsP.cons (ArgP.ev rfl) (ArgsP.cons (ArgP.fn1 (i := 1) (m := 2) (f := Sxc.cell (b.needs.getD q default)) rfl rfl (Nle rfl) (lt2 rfl rfl)) (ArgsP.nil))) ?_)
  rintro _ rfl
  refine VO.val rfl rfl (OpV.not rfl rfl) ?_
  refine VO.nil ?_
  refine VC.cond rfl (fun hxb => ?_) (fun hxb => ?_)
  ·have hx := hxb
   try simp only [qqT, qqF, qqN, qqM, qqL, qqE] at hx
   refine VC.region ?_
   refine VO.mv rfl rfl rfl rfl ?_
   refine VO.mv rfl rfl rfl rfl ?_
   refine VO.val rfl rfl (OpV.add rfl rfl rfl (by unfold fits; omega)) ?_
   refine VO.ma rfl rfl rfl rfl ?_
   refine VO.nil ?_
   refine VC.region ?_
   refine VO.val rfl rfl (OpV.add rfl rfl rfl (by unfold fits; omega)) ?_
   refine VO.mv rfl rfl rfl rfl ?_
   refine VO.nil ?_
   exact Exists.intro (⟨q + 1, by omega⟩) (And.intro (Le.mk hB [0] ⟨(by first | (rw [chgN_t (by omega) hx, Int.natCast_add, Int.mul_add, Int.natCast_one, Int.mul_one]; rfl) | (rw [chgN_f (by omega) hx]; rfl)), rfl, rfl, rfl, rfl, rfl, trivial⟩ rfl rfl (Nat.le_refl _)) (by first | omega | (show _ < _; omega) | (simp only []; omega)))
  ·have hx := hxb
   try simp only [qqT, qqF, qqN, qqM, qqL, qqE] at hx
   refine VC.skip ?_
   refine VC.region ?_
   refine VO.val rfl rfl (OpV.add rfl rfl rfl (by unfold fits; omega)) ?_
   refine VO.mv rfl rfl rfl rfl ?_
   refine VO.nil ?_
   exact Exists.intro (⟨q + 1, by omega⟩) (And.intro (Le.mk hB [0] ⟨(by first | (rw [chgN_t (by omega) hx, Int.natCast_add, Int.mul_add, Int.natCast_one, Int.mul_one]; rfl) | (rw [chgN_f (by omega) hx]; rfl)), rfl, rfl, rfl, rfl, rfl, trivial⟩ rfl rfl (Nat.le_refl _)) (by first | omega | (show _ < _; omega) | (simp only []; omega)))
 ·have aH1 := aH1b
  try simp only [qqT, qqF, qqN, qqM, qqL, qqE] at aH1
  refine VC.exit ?_
  refine VC.seq ?_
  have hqe : q = b.needs.length := by omega
  rw [hqe]
  refine VC.region ?_
  refine VO.mv rfl rfl rfl rfl ?_
  refine VO.ma rfl rfl rfl rfl ?_
  refine VO.nil ?_
  refine VC.ret ?_
  exact Exists.intro _ (And.intro (RetN.one Tryz.results349 (ResN.v rfl)) (rfl))
end Go.Proofs.YtaaokimiadfidaaGreatDoor
namespace Go.Proofs.YtaaokimiadfidaaGreatDoor
open Go.RowKit
set_option linter.unusedVariables false
set_option linter.unusedSimpArgs false
section
variable {P : Program} {B : Bs} {s : St'}
theorem Le.cellRow {i k j g n sz : Nat} {o' : Own'} {u : Value} {cs : List AV} {ty : TypeId} {y : AV} (hB : B.Ok) (hi : s.hp[i]? = some (.box g o')) (hj : o'.cs[j]? = some (.v u)) (hk : s.hp[k]? = some (.row u n sz cs ty)) (hik : i < k) (hy : ∀ w Z u, Rep w Z (.im n sz fun j => cs.getD j .any) u → Rep w Z y u) :
  Le B s ⟨s.sl, (s.hp.eraseIdx k).set i (.box g ⟨o'.cs.set j y, o'.ty, o'.tot⟩), s.k⟩ := fun a w hr => by
 have hr1 := hr.erase k
 have hi1 : (s.hp.eraseIdx k)[i]? = some (.box g o') := by rw [List.getElem?_eraseIdx, if_pos hik]; exact hi
 have hz : ∀ b, Zn B (s.hp.eraseIdx k) w b → Zn B ((s.hp.eraseIdx k).set i (.box g ⟨o'.cs.set j y, o'.ty, o'.tot⟩)) w b := fun b hb => ⟨hb.1, fun p hp hpb => by
  rcases List.mem_or_eq_of_mem_set hp with h | h
  ·exact hb.2.1 p h hpb
  ·subst h; exact hb.2.1 _ (List.mem_of_getElem? hi1) hpb, hb.2.2⟩
 have hz0 : ∀ b, Zn B s.hp w b → Zn B (s.hp.eraseIdx k) w b := fun b hb => ⟨hb.1, fun p hp => hb.2.1 p ((List.eraseIdx_sublist s.hp k).subset hp), hb.2.2⟩
 refine hr1.set hB hi1 (w' := w) (Chg.refl _ w) (.inl rfl) ?_
 obtain ⟨c, h1, h2, h3, h4⟩ := hr1.blocks _ (List.mem_of_getElem? hi1)
 refine ⟨c, h1, h2, by simpa using h3, fun q hq => ?_⟩
 have hq' : q < o'.cs.length := by simpa using hq
 obtain ⟨hjl, hje⟩ := List.getElem?_eq_some_iff.1 hj
 obtain ⟨v, k1, k2⟩ := h4 q hq'
 refine ⟨v, k1, ?_⟩
 rw [List.getElem_set]
 split
 ·rename_i e
  subst e
  rw [hje] at k2
  rw [k2.eq_v]
  exact hy _ _ _ (hr.repRow hk (fun b hb => hz b (hz0 b hb)) fun g' hg hl => hz g' (hr.erased hB hk hg))
 ·exact k2.keep fun b hb _ => ⟨rfl, hz b hb⟩
end
end Go.Proofs.YtaaokimiadfidaaGreatDoor
namespace Go.Proofs.YtaaokimiadfidaaGreatDoor
open Go.RowKit
set_option linter.unusedVariables false
set_option linter.unusedSimpArgs false
section
variable {α : Type} [Inhabited α] [Sxc α]
theorem rowL_inE {xs : List α} {q k : Nat} (hk : k = Sxc.k α) (h : q < xs.length) : 0 + q * k + k ≤ (rowL xs).length := by
 subst hk
 rw [rowL_len, Nat.zero_add]
 have : (q + 1) * Sxc.k α ≤ xs.length * Sxc.k α := Nat.mul_le_mul_right _ h
 rw [Nat.add_mul] at this; omega
theorem setAll_gt : ∀ (r cs : List AV) (off i : Nat), off + r.length ≤ cs.length → (setAll cs off r)[i]? = if off ≤ i ∧ i < off + r.length then r[i - off]? else cs[i]?
 | [], cs, off, i, h => by simp [setAll]; intro h1 h2; omega
 | x :: r, cs, off, i, h => by
  simp only [List.length_cons] at h
  rw [setAll, setAll_gt r _ (off + 1) i (by simp; omega)]
  by_cases h1 : i = off
  ·subst h1
   rw [if_neg (by omega), if_pos (by simp only [List.length_cons]; omega), Nat.sub_self, List.getElem?_set_self (by omega)]
   rfl
  ·rw [List.getElem?_set_ne (by omega)]
   by_cases h2 : off ≤ i ∧ i < off + (r.length + 1)
   ·rw [if_pos (by omega), if_pos (by simpa using h2), show i - off = (i - (off + 1)) + 1 by omega, List.getElem?_cons_succ]
   ·rw [if_neg (by omega), if_neg (by simpa using h2)]
theorem rowL_get' (xs : List α) {i : Nat} (hi : i < xs.length * Sxc.k α) : (rowL xs)[i]? = some (Sxc.cell (xs.getD (i / Sxc.k α) default) (i % Sxc.k α)) := by
 have hp := Sxc.pos (α := α)
 have h1 : i / Sxc.k α < xs.length := Nat.div_lt_of_lt_mul (by rw [Nat.mul_comm]; exact hi)
 have h2 := rowL_get xs (i / Sxc.k α) (i % Sxc.k α) h1 (Nat.mod_lt _ hp)
 rw [Nat.mul_comm, Nat.div_add_mod] at h2
 exact h2
theorem rowL_setAll {xs : List α} {q k : Nat} {x : α} (hk : k = Sxc.k α) (h : q < xs.length) : setAll (rowL xs) (0 + q * k) (tab (Sxc.k α) (Sxc.cell x)) = rowL (xs.set q x) := by
 subst hk
 have hp := Sxc.pos (α := α)
 have hle : 0 + q * Sxc.k α + Sxc.k α ≤ xs.length * Sxc.k α := by
  have : (q + 1) * Sxc.k α ≤ xs.length * Sxc.k α := Nat.mul_le_mul_right _ h
  rw [Nat.add_mul] at this; omega
 apply List.ext_getElem?
 intro i
 rw [setAll_gt _ _ _ _ (by rw [tab_len, rowL_len]; exact hle), tab_len]
 by_cases hi : i < xs.length * Sxc.k α
 ·rw [rowL_get' (xs.set q x) (by rw [List.length_set]; exact hi)]
  by_cases hr : 0 + q * Sxc.k α ≤ i ∧ i < 0 + q * Sxc.k α + Sxc.k α
  ·rw [if_pos hr]
   have e1 : i / Sxc.k α = q := Nat.div_eq_of_lt_le (by omega) (by rw [Nat.add_mul]; omega)
   have e2 : i % Sxc.k α = i - (0 + q * Sxc.k α) := by
    have := Nat.div_add_mod i (Sxc.k α); rw [e1, Nat.mul_comm] at this; omega
   rw [e1, e2, List.getElem?_eq_getElem (by rw [tab_len]; omega), tab_get]
   simp [List.getD_eq_getElem?_getD, h]
  ·rw [if_neg hr, rowL_get' xs hi]
   have e1 : i / Sxc.k α ≠ q := fun e => by
    have h1 := Nat.div_add_mod i (Sxc.k α)
    have h2 := Nat.mod_lt i hp
    rw [e, Nat.mul_comm] at h1
    exact hr ⟨by omega, by omega⟩
   simp [List.getD_eq_getElem?_getD, List.getElem?_set_ne (Ne.symm e1)]
 ·rw [if_neg (by omega), List.getElem?_eq_none (by rw [rowL_len]; omega), List.getElem?_eq_none (by rw [rowL_len, List.length_set]; omega)]
end
section
variable {P : Program} {B : Bs} {W : Nat → Prop} {s : St'} {o : Oper} {K : St' → Prop}
theorem OpE.storeE {x y : Operand} {t g j i k : Nat} {o' : Own'} {v : AV} {cs' : List AV} (ho : o.op = .store t x y) (hB : B.Ok) (hd : okd B.nt o.dst = true) (hsz : ∀ w, (sizeOf t).run P w = .ok k w) (hx : evO s x = some (.v (.pointer (some ⟨g, j, none⟩)))) (hy : evO s y = some v)
  (hk : v.known = true) (hl : (cellsOf v).length = k) (hone : (cellsOf v).all AV.one = true) (hi : s.hp[i]? = some (.box g o')) (hj : j + k ≤ o'.cs.length) (hcs : setAll o'.cs j (cellsOf v) = cs') (hW : W g)
  (hK : K ((St'.mk s.sl (s.hp.set i (.box g ⟨cs', o'.ty, o'.tot⟩)) s.k).put o.dst (.v undef))) : OpE P B W s o K := by
 subst hcs
 exact OpE.store ho hB hd hsz hx hy hk hl hone hi hj hW hK
end
end Go.Proofs.YtaaokimiadfidaaGreatDoor
namespace Go.Proofs.YtaaokimiadfidaaGreatDoor
open Go.RowKit
set_option linter.unusedVariables false
set_option linter.unusedSimpArgs false
abbrev boxSch (g : Nat) (o : List OrdrS) (b1 : Option Addr) (q c1 : Nat) (b2 : Option Addr) (c2 : Nat) (ty : TypeId) : Ent := .box g ⟨[avL o, .v (.slice b1 q c1), .v (.slice b2 q c2)], ty, 3⟩
set_option maxRecDepth 100000 in
set_option maxHeartbeats 8000000 in
theorem plan_newScheduler {p : List PaceS} {o : List OrdrS} {each : Int} (hp : SmPc p) (hpok : PacesOk p) (hook : OrdrsB o) (hhas : ∀ j, j < o.length → hasP p (o.getD j default).product = true) (he : 0 ≤ each ∧ each ≤ 10000000) :
  Spec Tryz.prog 293 [avL p, avL o, avI each] (fun y => y = .at_ 3 (schC p o each)) := by
 refine Spec.of_VC Tryz.func293 rfl Tryz.ntmps293 (Nle rfl) fun w A hB => ?_
 have hnew : True := trivial
 refine VC.seq ?_
 have hl := hp.len
 have hl2 := hook.len
 refine VC.region ?_
 refine VO.ma rfl rfl rfl rfl ?_
 refine VO.nil ?_
 refine VC.sr ?_
 refine VO.mv rfl rfl rfl rfl ?_
 refine VO.val rfl rfl (OpV.build (pls := #[(0, 1), (1, 1), (2, 1)]) rfl Tryz.zeroValue311 Tryz.underlying311 (fun w => by kernel_rfl) rfl rfl) ?_
 refine VO.op rfl (OpE.box rfl hB rfl rfl rfl ?_)
 intro g19
 refine VO.ma rfl rfl rfl rfl ?_
 refine VO.nil ?_
 refine VC.seq ?_
 refine VC.seq ?_
 refine VC.le _ (Le.nilRow 1 3) ?_
 refine VC.le _ (Le.nilRow 1 22) ?_
 refine VC.region ?_
 refine VO.mv rfl rfl rfl rfl ?_
 refine VO.val rfl rfl (OpV.len_im rfl Tryz.underlying75 rfl) ?_
 refine VO.mv rfl rfl rfl rfl ?_
 refine VO.nil ?_
 refine VC.block ?_
 refine VC.loopK [(0, _), (1, _), (2, _), (7, _), (20, _), (21, _)] ⟨rfl, rfl, rfl, rfl, rfl, rfl, trivial⟩ ({z : (Option Addr × Nat) × (Option Addr × Nat) × Nat // z.2.2 ≤ o.length}) (fun (iZ : {z : (Option Addr × Nat) × (Option Addr × Nat) × Nat // z.2.2 ≤ o.length}) => match iZ with | ⟨⟨⟨b1, c1⟩, ⟨b2, c2⟩, q⟩, hq⟩ => [(22, avI (q : Int))]) (fun (iZ : {z : (Option Addr × Nat) × (Option Addr × Nat) × Nat // z.2.2 ≤ o.length}) => match iZ with | ⟨⟨⟨b1, c1⟩, ⟨b2, c2⟩, q⟩, hq⟩ => [boxSch g19 o b1 q c1 b2 c2 311, .row (.slice b1 q c1) q 1 (intsL ((o.take q).map (longO p))) 3, .row (.slice b2 q c2) q 1 (listM ((o.take q).map fun x => o.map (turnO p each x))) 22]) (fun (iZ : {z : (Option Addr × Nat) × (Option Addr × Nat) × Nat // z.2.2 ≤ o.length}) => match iZ with | ⟨⟨⟨b1, c1⟩, ⟨b2, c2⟩, q⟩, hq⟩ => 0) (fun (iZ : {z : (Option Addr × Nat) × (Option Addr × Nat) × Nat // z.2.2 ≤ o.length}) => match iZ with | ⟨⟨⟨b1, c1⟩, ⟨b2, c2⟩, q⟩, hq⟩ => o.length - q) ⟨((none, 0), (none, 0), 0), Nat.zero_le _⟩ (Le.mk hB [0, 1, 2] ⟨rfl, rfl, rfl, rfl, rfl, rfl, rfl, trivial⟩ rfl rfl (Nat.le_refl _)) ?_
 rintro ⟨⟨⟨b1, c1⟩, ⟨b2, c2⟩, q⟩, hq⟩
 show VC _ _ _ _ ⟨[(22, avI (q : Int))] ++ [(0, _), (1, _), (2, _), (7, _), (20, _), (21, _)], [boxSch g19 o b1 q c1 b2 c2 311, .row (.slice b1 q c1) q 1 (intsL ((o.take q).map (longO p))) 3, .row (.slice b2 q c2) q 1 (listM ((o.take q).map fun x => o.map (turnO p each x))) 22], 0⟩
 simp only at hq
 refine VC.sr ?_
 refine VO.val rfl rfl (OpV.lss rfl rfl rfl) ?_
 refine VO.nil ?_
 refine VC.seq ?_
 refine VC.cond rfl (fun aH1b => ?_) (fun aH1b => ?_)
 ·have aH1 := aH1b
  try simp only [qqT, qqF, qqN, qqM, qqL, qqE] at aH1
  refine VC.skip ?_
  refine VC.seq ?_
  refine VC.block ?_
  refine VC.sr ?_
  refine VO.val rfl rfl (OpV.indexAddr_E rfl Tryz.underlying75 Tryz.sizeOf89 rfl rfl rfl (by omega)) ?_
  refine VO.val rfl rfl (OpV.loadK_at rfl hB OutW.no Tryz.isAgg89 Tryz.sizeOf89 rfl rfl) ?_
  refine VO.op rfl (OpE.alloc rfl hB rfl Tryz.zeroValue89 rfl ?_)
  intro g9
  refine VO.op rfl (OpE.store (i := 3) rfl hB rfl Tryz.sizeOf89 rfl rfl rfl rfl rfl rfl (Nle rfl) trivial ?_)
  refine VO.nil ?_
  refine VC.seq ?_
  have hoq := hook.all q (by omega)
  have hpq := paceO_ok hpok (hhas q (by omega))
  have hlq := mul_bd (by omega : 0 ≤ (paceO p (o.getD q default).product).cycle) hpq.1.2 (by omega : 0 ≤ (o.getD q default).count) hoq.1.2
  refine VC.region ?_
  refine VO.mv rfl rfl rfl rfl ?_
  refine VO.val rfl rfl (OpV.fieldAddrO 1 rfl Tryz.underlying89 rfl rfl Tryz.sizeOf9 rfl) ?_
  refine VO.val rfl rfl (OpV.load_own (i := 3) rfl hB Tryz.isAgg9 rfl rfl rfl (fun h => h)) ?_
  refine VO.op rfl (OpE.call rfl hB rfl Tryz.call265 rfl (plan_paceOf (k := (o.getD q default).product) (by omega) (pace_rise hpok)) ?_)
  rintro _ rfl
  refine VO.mv rfl rfl rfl rfl ?_
  refine VO.val rfl rfl (OpV.extract rfl rfl rfl) ?_
  refine VO.val rfl rfl (OpV.extract rfl rfl rfl) ?_
  refine VO.op rfl (OpE.alloc rfl hB rfl Tryz.zeroValue137 rfl ?_)
  intro g10
  refine VO.op rfl (OpE.store (i := 4) rfl hB rfl Tryz.sizeOf137 rfl rfl rfl rfl rfl rfl (Nle rfl) trivial ?_)
  refine VO.ma rfl rfl rfl rfl ?_
  refine VO.nil ?_
  refine VC.seq ?_
  refine VC.draw (fun j b => (j = 14 ∧ b = g19) ∨ (j = 11 ∧ (b ≠ g10 ∧ b ≠ g9))) hB (by kernel_rfl) ?_
  refine VA.take (i := 0) rfl (by kernel_rfl) (by kernel_rfl) (by kernel_rfl) rfl rfl (OpV.move (.inl rfl) rfl) ?_
  refine VA.take (i := 1) rfl (by kernel_rfl) (by kernel_rfl) (by kernel_rfl) rfl rfl (OpV.move (.inl rfl) rfl) ?_
  refine VA.take (i := 2) rfl (by kernel_rfl) (by kernel_rfl) (by kernel_rfl) rfl rfl (OpV.nilCheck rfl rfl) ?_
  refine VA.take (i := 3) rfl (by kernel_rfl) (by kernel_rfl) (by kernel_rfl) rfl rfl (OpV.fieldAddrO 1 rfl Tryz.underlying311 rfl rfl Tryz.sizeOf22 rfl) ?_
  refine VA.take (i := 4) rfl (by kernel_rfl) (by kernel_rfl) (by kernel_rfl) rfl rfl (OpV.load_own (i := 0) rfl hB Tryz.isAgg22 rfl rfl rfl (Wi.not2 (by kernel_rfl) (by kernel_rfl))) ?_
  refine VA.take (i := 5) rfl (by kernel_rfl) (by kernel_rfl) (by kernel_rfl) rfl rfl (OpV.fieldAddrO 1 rfl Tryz.underlying137 rfl rfl Tryz.sizeOf3 rfl) ?_
  refine VA.take (i := 6) rfl (by kernel_rfl) (by kernel_rfl) (by kernel_rfl) rfl rfl (OpV.load_own (i := 4) rfl hB Tryz.isAgg3 rfl rfl rfl (Wi.notN2 (by kernel_rfl) (fun h => h.1 rfl))) ?_
  refine VA.take (i := 7) rfl (by kernel_rfl) (by kernel_rfl) (by kernel_rfl) rfl rfl (OpV.fieldAddrO 2 rfl Tryz.underlying89 rfl rfl Tryz.sizeOf3 rfl) ?_
  refine VA.take (i := 8) rfl (by kernel_rfl) (by kernel_rfl) (by kernel_rfl) rfl rfl (OpV.load_own (i := 3) rfl hB Tryz.isAgg3 rfl rfl rfl (Wi.notN2 (by kernel_rfl) (fun h => h.2 rfl))) ?_
  refine VA.take (i := 9) rfl (by kernel_rfl) (by kernel_rfl) (by kernel_rfl) rfl rfl (OpV.mul rfl rfl rfl (by unfold fits; omega)) ?_
  refine VA.all (rs := [10]) (by kernel_rfl) (by decide) ?_
  refine ⟨⟨_, rfl, .inl rfl, ?_⟩, trivial⟩
  refine OpE.buildSlice (zc := #[.int .i64 0]) rfl hB rfl Tryz.underlying22 Tryz.sizeOf3 Tryz.zeroValue3 (by decide) (by decide) (by kernel_rfl) rfl rfl ?_
  refine VA.all (rs := [11]) (by kernel_rfl) (by decide) ?_
  refine ⟨⟨_, rfl, .inl rfl, ?_⟩, trivial⟩
  refine OpE.hap (fun hap => ?_)
  refine OpE.append1S (i := 1) rfl hB rfl Tryz.underlying22 (infoOf Tryz.t3 1 (by kernel_rfl) rfl rfl) rfl (by decide) (by decide) rfl rfl rfl rfl (intsL_snoc _ _) (by omega) (fun g' hg => .inr ⟨rfl, apart_ne hap (i := 1) (j := 4) hg rfl (by decide), apart_ne hap (i := 1) (j := 3) hg rfl (by decide)⟩) ?_
  intro b44 c44
  refine VA.take (i := 12) rfl (by kernel_rfl) (by kernel_rfl) (by kernel_rfl) rfl rfl (OpV.nilCheck rfl rfl) ?_
  refine VA.take (i := 13) rfl (by kernel_rfl) (by kernel_rfl) (by kernel_rfl) rfl rfl (OpV.fieldAddrO 1 rfl Tryz.underlying311 rfl rfl Tryz.sizeOf22 rfl) ?_
  refine VA.all (rs := [14]) (by kernel_rfl) (by decide) ?_
  refine ⟨⟨_, rfl, .inl rfl, ?_⟩, trivial⟩
  refine OpE.hap (fun hap => ?_)
  refine OpE.store (i := 0) rfl hB rfl Tryz.sizeOf22 rfl rfl rfl rfl rfl rfl (Nle rfl) (by first | exact .inl ⟨rfl, rfl⟩ | (refine ⟨by first | exact rfl | exact .inl rfl | exact .inr rfl, ?_⟩; repeat (first | (first | exact apart_ne hap (i := 4) (j := 0) rfl rfl (by decide) | exact apart_ne hap (i := 4) (j := 1) rfl rfl (by decide) | exact apart_ne hap (i := 4) (j := 2) rfl rfl (by decide) | exact apart_ne hap (i := 4) (j := 3) rfl rfl (by decide) | exact apart_ne hap (i := 3) (j := 0) rfl rfl (by decide) | exact apart_ne hap (i := 3) (j := 1) rfl rfl (by decide) | exact apart_ne hap (i := 3) (j := 2) rfl rfl (by decide) | exact apart_ne hap (i := 3) (j := 4) rfl rfl (by decide) | exact apart_ne hap (i := 2) (j := 0) rfl rfl (by decide) | exact apart_ne hap (i := 2) (j := 1) rfl rfl (by decide) | exact apart_ne hap (i := 2) (j := 3) rfl rfl (by decide) | exact apart_ne hap (i := 2) (j := 4) rfl rfl (by decide) | exact apart_ne hap (i := 1) (j := 0) rfl rfl (by decide) | exact apart_ne hap (i := 1) (j := 2) rfl rfl (by decide) | exact apart_ne hap (i := 1) (j := 3) rfl rfl (by decide) | exact apart_ne hap (i := 1) (j := 4) rfl rfl (by decide) | exact apart_ne hap (i := 0) (j := 1) rfl rfl (by decide) | exact apart_ne hap (i := 0) (j := 2) rfl rfl (by decide) | exact apart_ne hap (i := 0) (j := 3) rfl rfl (by decide) | exact apart_ne hap (i := 0) (j := 4) rfl rfl (by decide)) | refine And.intro ?_ ?_))) ?_
  refine VA.done (by kernel_rfl) ?_
  refine VC.sr ?_
  refine VO.ma rfl rfl rfl rfl ?_
  refine VO.nil ?_
  refine VC.seq ?_
  refine VC.sr ?_
  refine VO.mv rfl rfl rfl rfl ?_
  refine VO.val rfl rfl (OpV.len_im rfl Tryz.underlying75 rfl) ?_
  refine VO.mv rfl rfl rfl rfl ?_
  refine VO.nil ?_
  refine VC.block ?_
  refine VC.le _ (Le.nilRow 1 3) ?_
  refine VC.loopK [(0, _), (1, _), (2, _), (7, _), (10, _), (20, _), (21, _), (22, _), (47, _), (48, _)] ⟨rfl, rfl, rfl, rfl, rfl, rfl, rfl, rfl, rfl, rfl, trivial⟩ ({z : Value × Nat // z.2 ≤ o.length}) (fun (iZ : {z : Value × Nat // z.2 ≤ o.length}) => match iZ with | ⟨⟨u, r⟩, hr⟩ => [(12, .v u), (49, avI (r : Int))]) (fun (iZ : {z : Value × Nat // z.2 ≤ o.length}) => match iZ with | ⟨⟨u, r⟩, hr⟩ => [.box g19 ⟨[avL o, .v (.slice b44 (q + 1) c44), .v (.slice b2 q c2)], 311, 3⟩, .row (.slice b44 (q + 1) c44) (q + 1) 1 (intsL ((o.take q).map (longO p) ++ [longO p (o.getD q default)])) 3, .row (.slice b2 q c2) q 1 (listM ((o.take q).map fun x => o.map (turnO p each x))) 22, boxPc g10 (paceO p (o.getD q default).product) 137, .row u r 1 (intsL ((o.take r).map (turnO p each (o.getD q default)))) 3]) (fun (iZ : {z : Value × Nat // z.2 ≤ o.length}) => match iZ with | ⟨⟨u, r⟩, hr⟩ => 0) (fun (iZ : {z : Value × Nat // z.2 ≤ o.length}) => match iZ with | ⟨⟨u, r⟩, hr⟩ => o.length - r) ⟨(.slice none 0 0, 0), Nat.zero_le _⟩ (Le.mk hB [0, 1, 2, 4, 5] ⟨rfl, rfl, rfl, rfl, rfl, rfl, rfl, rfl, rfl, rfl, rfl, rfl, trivial⟩ rfl rfl (Nat.le_refl _)) ?_
  rintro ⟨⟨u, r⟩, hr⟩
  show VC _ _ _ _ ⟨[(12, .v u), (49, avI (r : Int))] ++ [(0, _), (1, _), (2, _), (7, _), (10, _), (20, _), (21, _), (22, _), (47, _), (48, _)], [.box g19 ⟨[avL o, .v (.slice b44 (q + 1) c44), .v (.slice b2 q c2)], 311, 3⟩, .row (.slice b44 (q + 1) c44) (q + 1) 1 (intsL ((o.take q).map (longO p) ++ [longO p (o.getD q default)])) 3, .row (.slice b2 q c2) q 1 (listM ((o.take q).map fun x => o.map (turnO p each x))) 22, boxPc g10 (paceO p (o.getD q default).product) 137, .row u r 1 (intsL ((o.take r).map (turnO p each (o.getD q default)))) 3], 0⟩
  simp only at hr
  refine VC.sr ?_
  refine VO.val rfl rfl (OpV.lss rfl rfl rfl) ?_
  refine VO.nil ?_
  refine VC.seq ?_
  refine VC.cond rfl (fun aH2b => ?_) (fun aH2b => ?_)
  ·have aH2 := aH2b
   try simp only [qqT, qqF, qqN, qqM, qqL, qqE] at aH2
   refine VC.skip ?_
   refine VC.seq ?_
   refine VC.block ?_
   refine VC.sr ?_
   refine VO.val rfl rfl (OpV.indexAddr_E rfl Tryz.underlying75 Tryz.sizeOf89 rfl rfl rfl (by omega)) ?_
   refine VO.val rfl rfl (OpV.loadK_at rfl hB OutW.no Tryz.isAgg89 Tryz.sizeOf89 rfl rfl) ?_
   refine VO.op rfl (OpE.alloc rfl hB rfl Tryz.zeroValue89 rfl ?_)
   intro g14
   refine VO.op rfl (OpE.store (i := 5) rfl hB rfl Tryz.sizeOf89 rfl rfl rfl rfl rfl rfl (Nle rfl) trivial ?_)
   refine VO.nil ?_
   refine VC.sr ?_
   refine VO.mv rfl rfl rfl rfl ?_
   refine VO.val rfl rfl (OpV.fieldAddrO 1 rfl Tryz.underlying89 rfl rfl Tryz.sizeOf9 rfl) ?_
   refine VO.val rfl rfl (OpV.load_own (i := 5) rfl hB Tryz.isAgg9 rfl rfl rfl (fun h => h)) ?_
   refine VO.op rfl (OpE.call rfl hB rfl Tryz.call265 rfl (plan_paceOf (k := (o.getD r default).product) (by omega) (pace_rise hpok)) ?_)
   rintro _ rfl
   refine VO.mv rfl rfl rfl rfl ?_
   refine VO.val rfl rfl (OpV.extract rfl rfl rfl) ?_
   refine VO.val rfl rfl (OpV.extract rfl rfl rfl) ?_
   refine VO.op rfl (OpE.alloc rfl hB rfl Tryz.zeroValue137 rfl ?_)
   intro g15
   refine VO.op rfl (OpE.store (i := 6) rfl hB rfl Tryz.sizeOf137 rfl rfl rfl rfl rfl rfl (Nle rfl) trivial ?_)
   refine VO.ma rfl rfl rfl rfl ?_
   refine VO.nil ?_
   refine VC.region ?_
   refine VO.mv rfl rfl rfl rfl ?_
   refine VO.val rfl rfl (OpV.loadK_own (i := 3) rfl hB Tryz.isAgg137 Tryz.sizeOf137 rfl rfl rfl (fun h => h)) ?_
   refine VO.val rfl rfl (OpV.loadK_own (i := 6) rfl hB Tryz.isAgg137 Tryz.sizeOf137 rfl rfl rfl (fun h => h)) ?_
   refine VO.mv rfl rfl rfl rfl ?_
   refine VO.op rfl (OpE.call rfl hB rfl Tryz.call349 rfl (SpecN.spec (plan_changeover (a := paceO p (o.getD q default).product) (b := paceO p (o.getD r default).product) (paceO_sm hp _).1 (paceO_sm hp _).1 he)) ?_)
   rintro _ rfl
   refine VO.op rfl (OpE.buildSlice (zc := #[.int .i64 0]) rfl hB rfl Tryz.underlying22 Tryz.sizeOf3 Tryz.zeroValue3 (by decide) (by decide) (by kernel_rfl) rfl rfl ?_)
   refine VO.op rfl (OpE.append1 (i := 4) rfl hB rfl Tryz.underlying22 (infoOf Tryz.t3 1 (by kernel_rfl) rfl rfl) rfl (by decide) (by decide) rfl rfl rfl rfl (intsL_snoc _ _) (by omega) (fun _ _ => trivial) ?_)
   intro u66
   refine VO.ma rfl rfl rfl rfl ?_
   refine VO.nil ?_
   refine VC.region ?_
   refine VO.val rfl rfl (OpV.add rfl rfl rfl (by unfold fits; omega)) ?_
   refine VO.mv rfl rfl rfl rfl ?_
   refine VO.nil ?_
   exact Exists.intro (⟨(u66, r + 1), by show r + 1 ≤ _; omega⟩) (And.intro (Le.mk hB [0, 1, 2, 3, 4] ⟨rfl, rfl, rfl, rfl, rfl, rfl, rfl, rfl, rfl, rfl, rfl, rfl, trivial⟩ rfl (by dsimp only; rw [map_snoc (turnO p each (o.getD q default)) (show r < o.length by omega) default]; rfl) (Nat.le_refl _)) (by first | omega | (show _ < _; omega) | (simp only []; omega)))
  ·have aH2 := aH2b
   try simp only [qqT, qqF, qqN, qqM, qqL, qqE] at aH2
   refine VC.exit ?_
   have hre : o.take r = o := List.take_of_length_le (by omega)
   have hro : r = o.length := by omega
   rw [hre]
   refine VC.le _ (Le.rowI (t := 12) (i := 4) hB hnew rfl rfl (by rw [List.length_map]; exact hro)) ?_
   refine VC.region ?_
   refine VO.mv rfl rfl rfl rfl ?_
   refine VO.mv rfl rfl rfl rfl ?_
   refine VO.val rfl rfl (OpV.nilCheck rfl rfl) ?_
   refine VO.val rfl rfl (OpV.fieldAddrO 2 rfl Tryz.underlying311 rfl rfl Tryz.sizeOf63 rfl) ?_
   refine VO.val rfl rfl (OpV.load_own (i := 0) rfl hB Tryz.isAgg63 rfl rfl rfl (fun h => h)) ?_
   refine VO.mv rfl rfl rfl rfl ?_
   refine VO.op rfl (OpE.buildSlice (zc := #[.slice none 0 0]) rfl hB rfl Tryz.underlying63 Tryz.sizeOf22 Tryz.zeroValue22 (by decide) (by decide) (by kernel_rfl) rfl rfl ?_)
   refine VO.op rfl (OpE.append1S (i := 2) rfl hB rfl Tryz.underlying63 (infoOf Tryz.t22 1 (by kernel_rfl) rfl rfl) rfl (by decide) (by decide) rfl rfl rfl rfl (listM_snoc _ (o.map (turnO p each (o.getD q default)))) (by omega) (fun _ _ => trivial) ?_)
   intro b75 c75
   refine VO.val rfl rfl (OpV.nilCheck rfl rfl) ?_
   refine VO.val rfl rfl (OpV.fieldAddrO 2 rfl Tryz.underlying311 rfl rfl Tryz.sizeOf63 rfl) ?_
   refine VO.op rfl (OpE.store (i := 0) rfl hB rfl Tryz.sizeOf63 rfl rfl rfl rfl rfl rfl (Nle rfl) trivial ?_)
   refine VO.nil ?_
   refine VC.region ?_
   refine VO.val rfl rfl (OpV.add rfl rfl rfl (by unfold fits; omega)) ?_
   refine VO.mv rfl rfl rfl rfl ?_
   refine VO.nil ?_
   exact Exists.intro (⟨((b44, c44), (b75, c75), q + 1), by show q + 1 ≤ _; omega⟩) (And.intro (Le.mk hB [0, 1, 2] ⟨rfl, rfl, rfl, rfl, rfl, rfl, rfl, trivial⟩ rfl (by dsimp only; rw [map_snoc (longO p) (show q < o.length by omega) default, map_snoc (fun x => o.map (turnO p each x)) (show q < o.length by omega) default]; rfl) (Nat.le_refl _)) (by first | omega | (show _ < _; omega) | (simp only []; omega)))
 ·have aH1 := aH1b
  try simp only [qqT, qqF, qqN, qqM, qqL, qqE] at aH1
  refine VC.exit ?_
  refine VC.seq ?_
  have hqe : o.take q = o := List.take_of_length_le (by omega)
  have hqo : q = o.length := by omega
  rw [hqe]
  refine VC.le _ (Le.cellRow (i := 0) (k := 1) (j := 1) (y := avInts (o.map (longO p))) hB rfl rfl rfl (by omega) (fun w Z u h => Rep.ints (by rw [List.length_map]; exact hqo) h)) ?_
  refine VC.le _ (Le.cellRow (i := 0) (k := 1) (j := 2) (y := avM (o.map fun x => o.map (turnO p each x))) hB rfl rfl rfl (by omega) (fun w Z u h => Rep.listM (by rw [List.length_map]; exact hqo) h)) ?_
  refine VC.le _ (Le.freezeAt (t := 7) (i := 0) (m := 3) (f := schC p o each) rfl rfl (Nle rfl) (fun w Z u h => h.at_congr (g := schC p o each) (fun j hj => by rcases j with _ | _ | _ | j <;> first | rfl | omega)) hnew hB) ?_
  refine VC.region ?_
  refine VO.mv rfl rfl rfl rfl ?_
  refine VO.ma rfl rfl rfl rfl ?_
  refine VO.nil ?_
  refine VC.ret ?_
  exact Exists.intro _ (And.intro (RetV.one Tryz.results293 (ResV.tmp rfl)) (rfl))
set_option maxRecDepth 100000 in
theorem plan_scheduled {p : List PaceS} {o : List OrdrS} {l : List Int} {start each : Int} (hp : SmPc p) (ho : SmOr o) (hl : l.length ≤ 1000000) :
  Spec Tryz.prog 201 [avL p, avL o, avInts l, avI start, avI each] (fun y => y = .tup [schAV p o l start each, avI (scheF p o l start each)]) := by
 refine Spec.of_VC Tryz.func201 rfl Tryz.ntmps201 (Nle rfl) fun w A hB => ?_
 have hnew : True := trivial
 refine VC.sr ?_
 refine VO.ma rfl rfl rfl rfl ?_
 refine VO.ma rfl rfl rfl rfl ?_
 refine VO.nil ?_
 refine VC.seq ?_
 refine VC.sr ?_
 refine VO.mv rfl rfl rfl rfl ?_
 refine VO.mv rfl rfl rfl rfl ?_
 refine VO.op rfl (OpE.call rfl hB rfl Tryz.call147 rfl (SpecN.spec (plan_fault hp ho)) ?_)
 rintro _ rfl
 refine VO.ma rfl rfl rfl rfl ?_
 refine VO.nil ?_
 refine VC.sr ?_
 refine VO.mv rfl rfl rfl rfl ?_
 refine VO.val rfl rfl (OpV.neq rfl rfl rfl) ?_
 refine VO.nil ?_
 refine VC.cond rfl (fun h0b => ?_) (fun h0b => ?_)
 ·have h0 := h0b
  try simp only [qqT, qqF, qqN, qqM, qqL, qqE] at h0
  refine VC.sr ?_
  refine VO.mv rfl rfl rfl rfl ?_
  refine VO.ma rfl rfl rfl rfl ?_
  refine VO.ma rfl rfl rfl rfl ?_
  refine VO.nil ?_
  refine VC.ret ?_
  exact Exists.intro _ (And.intro (RetV.two Tryz.results201 (ResV.tmp rfl) (ResV.tmp rfl)) (by rw [schAV_no (by rw [scheF_1 h0]; exact h0), scheF_1 h0]))
 ·have h0 := h0b
  try simp only [qqT, qqF, qqN, qqM, qqL, qqE] at h0
  refine VC.skip ?_
  refine VC.seq ?_
  refine VC.sr ?_
  refine VO.mv rfl rfl rfl rfl ?_
  refine VO.mv rfl rfl rfl rfl ?_
  refine VO.op rfl (OpE.call rfl hB rfl Tryz.call291 rfl (SpecN.spec (plan_scheduleFault ho.len hl)) ?_)
  rintro _ rfl
  refine VO.ma rfl rfl rfl rfl ?_
  refine VO.nil ?_
  refine VC.sr ?_
  refine VO.mv rfl rfl rfl rfl ?_
  refine VO.val rfl rfl (OpV.neq rfl rfl rfl) ?_
  refine VO.nil ?_
  refine VC.cond rfl (fun h1b => ?_) (fun h1b => ?_)
  ·have h1 := h1b
   try simp only [qqT, qqF, qqN, qqM, qqL, qqE] at h1
   refine VC.sr ?_
   refine VO.mv rfl rfl rfl rfl ?_
   refine VO.ma rfl rfl rfl rfl ?_
   refine VO.ma rfl rfl rfl rfl ?_
   refine VO.nil ?_
   refine VC.ret ?_
   exact Exists.intro _ (And.intro (RetV.two Tryz.results201 (ResV.tmp rfl) (ResV.tmp rfl)) (by rw [schAV_no (by rw [scheF_2 (by omega) h1]; exact h1), scheF_2 (by omega) h1]))
  ·have h1 := h1b
   try simp only [qqT, qqF, qqN, qqM, qqL, qqE] at h1
   refine VC.skip ?_
   refine VC.seq ?_
   refine VC.sr ?_
   refine VO.mv rfl rfl rfl rfl ?_
   refine VO.mv rfl rfl rfl rfl ?_
   refine VO.op rfl (OpE.call rfl hB rfl Tryz.call292 rfl (SpecN.spec (plan_numbersFault)) ?_)
   rintro _ rfl
   refine VO.ma rfl rfl rfl rfl ?_
   refine VO.nil ?_
   refine VC.sr ?_
   refine VO.mv rfl rfl rfl rfl ?_
   refine VO.val rfl rfl (OpV.neq rfl rfl rfl) ?_
   refine VO.nil ?_
   refine VC.cond rfl (fun h2b => ?_) (fun h2b => ?_)
   ·have h2 := h2b
    try simp only [qqT, qqF, qqN, qqM, qqL, qqE] at h2
    refine VC.sr ?_
    refine VO.mv rfl rfl rfl rfl ?_
    refine VO.ma rfl rfl rfl rfl ?_
    refine VO.ma rfl rfl rfl rfl ?_
    refine VO.nil ?_
    refine VC.ret ?_
    exact Exists.intro _ (And.intro (RetV.two Tryz.results201 (ResV.tmp rfl) (ResV.tmp rfl)) (by rw [schAV_no (by rw [scheF_3 (by omega) (by omega)]; exact h2), scheF_3 (by omega) (by omega)]))
   ·have h2 := h2b
    try simp only [qqT, qqF, qqN, qqM, qqL, qqE] at h2
    have hz : scheF p o l start each = 0 := by rw [scheF_3 (by omega) (by omega)]; omega
    have hk := schOk hz
    refine VC.skip ?_
    refine VC.sr ?_
    refine VO.mv rfl rfl rfl rfl ?_
    refine VO.mv rfl rfl rfl rfl ?_
    refine VO.mv rfl rfl rfl rfl ?_
    refine VO.op rfl (OpE.call rfl hB rfl Tryz.call293 rfl (plan_newScheduler hp hk.pok hk.ook hk.has hk.ea) ?_)
    rintro _ rfl
    refine VO.ma rfl rfl rfl rfl ?_
    refine VO.ma rfl rfl rfl rfl ?_
    refine VO.nil ?_
    refine VC.ret ?_
    exact Exists.intro _ (And.intro (RetV.two Tryz.results201 (ResV.tmp rfl) (ResV.tmp rfl)) (by rw [schAV_ok hz, hz]))
abbrev boxRes (g : Nat) (r : ResS) (ty : TypeId) : Ent := .box g ⟨[avI r.late, avI r.many, avI r.en], ty, 3⟩
set_option maxRecDepth 100000 in
set_option maxHeartbeats 8000000 in
theorem plan_run {τ : Type} {K : τ → List Ent → Prop} {step : τ → Int → WinS → τ} {p : List PaceS} {o : List OrdrS} {l : List Int} {start each : Int} {F : FuncId} {caps : Array Value} {h : List Ent} {a : τ} (hk : SchOk p o l start each) (hcd : ∀ us w, (callFunc F us).run Tryz.prog w = .ok (.enter F us) w) (hdo : DoesW o.length K step Tryz.prog F caps) (hK : K a h) :
  SpecH Tryz.prog 202 [.at_ 3 (schC p o each), avInts l, avI start, .v (.func (.func F) #[] caps)] h (fun y hp' => ∃ h' e1 e2, K (runA step p o l start each a l.length) h' ∧ y = .agg [avI (resP p o l start each l.length).late, avI (resP p o l start each l.length).many, avI (resP p o l start each l.length).en] ∧ hp' = e1 :: e2 :: h') := by
 refine SpecH.of_VC Tryz.func202 rfl Tryz.ntmps202 (Nle rfl) fun w A hB => ?_
 have hnew : True := trivial
 refine VC.seq ?_
 have hl := hk.len
 have ho := hk.ook.len
 refine VC.region ?_
 refine VO.op rfl (OpE.alloc rfl hB rfl Tryz.zeroValue245 rfl ?_)
 intro g8
 refine VO.le _ (Le.front rfl) ?_
 refine VO.nil ?_
 refine VC.sr ?_
 refine VO.mv rfl rfl rfl rfl ?_
 refine VO.val rfl rfl (OpV.build (pls := #[(0, 1), (1, 1), (2, 1)]) rfl Tryz.zeroValue245 Tryz.underlying245 (fun w => by kernel_rfl) rfl rfl) ?_
 refine VO.op rfl (OpE.alloc rfl hB rfl Tryz.zeroValue245 rfl ?_)
 intro g9
 refine VO.le _ (Le.front rfl) ?_
 refine VO.op rfl (OpE.store (i := 0) rfl hB rfl Tryz.sizeOf245 rfl rfl rfl rfl rfl rfl (Nle rfl) trivial ?_)
 refine VO.nil ?_
 refine VC.seq ?_
 refine VC.sr ?_
 refine VO.mv rfl rfl rfl rfl ?_
 refine VO.val rfl rfl (OpV.len_im rfl Tryz.underlying22 rfl) ?_
 refine VO.mv rfl rfl rfl rfl ?_
 refine VO.nil ?_
 refine VC.block ?_
 refine VC.loopK [(0, _), (1, _), (2, _), (3, _), (8, _), (9, _), (15, _), (16, _)] ⟨rfl, rfl, rfl, rfl, rfl, rfl, rfl, rfl, trivial⟩ ({z : List Ent × Nat // z.2 ≤ l.length ∧ K (runA step p o l start each a z.2) z.1}) (fun (iZ : {z : List Ent × Nat // z.2 ≤ l.length ∧ K (runA step p o l start each a z.2) z.1}) => match iZ with | ⟨⟨hh, q⟩, hq, hkk⟩ => [(17, avI (q : Int))]) (fun (iZ : {z : List Ent × Nat // z.2 ≤ l.length ∧ K (runA step p o l start each a z.2) z.1}) => match iZ with | ⟨⟨hh, q⟩, hq, hkk⟩ => [boxRes g9 (resP p o l start each q) 245, .box g8 ⟨[avI 0, avI 0, avI 0], 245, 3⟩] ++ hh) (fun (iZ : {z : List Ent × Nat // z.2 ≤ l.length ∧ K (runA step p o l start each a z.2) z.1}) => match iZ with | ⟨⟨hh, q⟩, hq, hkk⟩ => 0) (fun (iZ : {z : List Ent × Nat // z.2 ≤ l.length ∧ K (runA step p o l start each a z.2) z.1}) => match iZ with | ⟨⟨hh, q⟩, hq, hkk⟩ => l.length - q) ⟨(h, 0), Nat.zero_le _, hK⟩ (Le.mkP hB ⟨rfl, rfl, rfl, rfl, rfl, rfl, rfl, rfl, rfl, trivial⟩ (List.Sublist.refl _) (List.Perm.refl _) (Nat.le_refl _)) ?_
 rintro ⟨⟨hh, q⟩, hq, hkk⟩
 show VC _ _ _ _ ⟨[(17, avI (q : Int))] ++ [(0, _), (1, _), (2, _), (3, _), (8, _), (9, _), (15, _), (16, _)], [boxRes g9 (resP p o l start each q) 245, .box g8 ⟨[avI 0, avI 0, avI 0], 245, 3⟩] ++ hh, 0⟩
 simp only at hq hkk
 refine VC.sr ?_
 refine VO.val rfl rfl (OpV.lss rfl rfl rfl) ?_
 refine VO.nil ?_
 refine VC.seq ?_
 refine VC.cond rfl (fun aH1b => ?_) (fun aH1b => ?_)
 ·have aH1 := aH1b
  try simp only [qqT, qqF, qqN, qqM, qqL, qqE] at aH1
  refine VC.skip ?_
  refine VC.seq ?_
  refine VC.block ?_
  refine VC.seq ?_
  have hat := hk.at_ (q := q) (by omega)
  have hbd := hk.bd q (by omega)
  have hrs := hk.res q (by omega)
  have hfe := endP_from p o l start each q
  have hlo : 0 ≤ longO p (orA o (l.getD q 0)) ∧ longO p (orA o (l.getD q 0)) ≤ 1000000000000 := hk.long hat.2
  have hdu : (0 ≤ (orA o (l.getD q 0)).ready ∧ (orA o (l.getD q 0)).ready ≤ 345686399999) ∧ 0 ≤ (orA o (l.getD q 0)).due ∧ (orA o (l.getD q 0)).due ≤ 345686399999 := (hk.ook.all _ hat.2).2
  refine VC.region ?_
  refine VO.mv rfl rfl rfl rfl ?_
  refine VO.val rfl rfl (OpV.indexAddr_1 rfl Tryz.underlying22 Tryz.sizeOf3 rfl rfl rfl (by omega)) ?_
  refine VO.val rfl rfl (OpV.load_at rfl hB OutW.no Tryz.isAgg3 rfl rfl) ?_
  refine VO.ma rfl rfl rfl rfl ?_
  refine VO.ma rfl rfl rfl rfl ?_
  refine VO.nil ?_
  refine VC.sr ?_
  refine VO.mv rfl rfl rfl rfl ?_
  refine VO.ma rfl rfl rfl rfl ?_
  refine VO.nil ?_
  refine VC.seq ?_
  refine VC.sr ?_
  refine VO.mv rfl rfl rfl rfl ?_
  refine VO.val rfl rfl (OpV.gtr rfl rfl rfl) ?_
  refine VO.nil ?_
  refine VC.cond rfl (fun aH2b => ?_) (fun aH2b => ?_)
  ·have aH2 := aH2b
   try simp only [qqT, qqF, qqN, qqM, qqL, qqE] at aH2
   obtain ⟨q', hq'⟩ : ∃ q', q = q' + 1 := ⟨q - 1, by omega⟩
   have hen : (resP p o l start each q).en = endP p o l start each q' := by rw [hq', resP_en]
   have hfr : fromP p o l start each q = max (endP p o l start each q' + turnO p each (orA o (l.getD q' 0)) (orA o (l.getD q 0))) (orA o (l.getD q 0)).ready := by rw [hq']; rfl
   have hat1 := hk.at_ (q := q') (by omega)
   have htu : 0 ≤ turnO p each (orA o (l.getD q' 0)) (orA o (l.getD q 0)) ∧ turnO p each (orA o (l.getD q' 0)) (orA o (l.getD q 0)) ≤ 10000000000 := hk.turn hat.2
   refine VC.draw (fun _ => NoB) hB (by kernel_rfl) ?_
   refine VA.take (i := 0) rfl (by kernel_rfl) (by kernel_rfl) (by kernel_rfl) rfl rfl (OpV.fieldAddrO 2 rfl Tryz.underlying245 rfl rfl Tryz.sizeOf3 rfl) ?_
   refine VA.take (i := 1) rfl (by kernel_rfl) (by kernel_rfl) (by kernel_rfl) rfl rfl (OpV.load_own (i := 0) rfl hB Tryz.isAgg3 rfl rfl rfl Wi.not0) ?_
   refine VA.le _ (Le.recast (t := 26) (y := avI (endP p o l start each q')) rfl (fun w Z u h => by rw [hen] at h; exact h)) ?_
   refine VA.take (i := 2) rfl (by kernel_rfl) (by kernel_rfl) (by kernel_rfl) rfl rfl (OpV.move (.inl rfl) rfl) ?_
   refine VA.take (i := 3) rfl (by kernel_rfl) (by kernel_rfl) (by kernel_rfl) rfl rfl (OpV.nilCheck_at rfl rfl) ?_
   refine VA.take (i := 4) rfl (by kernel_rfl) (by kernel_rfl) (by kernel_rfl) rfl rfl (OpV.fieldAddr_atO 2 rfl Tryz.underlying311 rfl rfl Tryz.sizeOf63 rfl rfl) ?_
   refine VA.take (i := 5) rfl (by kernel_rfl) (by kernel_rfl) (by kernel_rfl) rfl rfl (OpV.load_at rfl hB OutW.wi0 Tryz.isAgg63 rfl rfl) ?_
   refine VA.take (i := 6) rfl (by kernel_rfl) (by kernel_rfl) (by kernel_rfl) rfl rfl (OpV.move (.inl rfl) rfl) ?_
   refine VA.take (i := 7) rfl (by kernel_rfl) (by kernel_rfl) (by kernel_rfl) rfl rfl (OpV.move (.inl rfl) rfl) ?_
   refine VA.take (i := 8) rfl (by kernel_rfl) (by kernel_rfl) (by kernel_rfl) rfl rfl (OpV.sub rfl rfl rfl (by unfold fits; omega)) ?_
   refine VA.take (i := 9) rfl (by kernel_rfl) (by kernel_rfl) (by kernel_rfl) rfl rfl (OpV.indexAddr_1 rfl Tryz.underlying22 Tryz.sizeOf3 rfl rfl (show ((q : Int) - 1) = (q' : Int) by omega) (by omega)) ?_
   refine VA.take (i := 10) rfl (by kernel_rfl) (by kernel_rfl) (by kernel_rfl) rfl rfl (OpV.load_at rfl hB OutW.wi0 Tryz.isAgg3 rfl rfl) ?_
   refine VA.take (i := 11) rfl (by kernel_rfl) (by kernel_rfl) (by kernel_rfl) rfl rfl (OpV.indexAddr_1 rfl Tryz.underlying63 Tryz.sizeOf22 rfl rfl (Int.toNat_of_nonneg hat1.1).symm (by rw [List.length_map]; exact hat1.2)) ?_
   refine VA.take (i := 12) rfl (by kernel_rfl) (by kernel_rfl) (by kernel_rfl) rfl rfl (OpV.load_at rfl hB OutW.wi0 Tryz.isAgg22 rfl rfl) ?_
   refine VA.le _ (Le.recast (t := 37) (y := avInts (o.map (turnO p each (orA o (l.getD q' 0))))) rfl (fun w Z u h => by rw [map_getD (fun x => o.map (turnO p each x)) hat1.2 default default] at h; exact h)) ?_
   refine VA.take (i := 13) rfl (by kernel_rfl) (by kernel_rfl) (by kernel_rfl) rfl rfl (OpV.move (.inl rfl) rfl) ?_
   refine VA.take (i := 14) rfl (by kernel_rfl) (by kernel_rfl) (by kernel_rfl) rfl rfl (OpV.indexAddr_1 rfl Tryz.underlying22 Tryz.sizeOf3 rfl rfl (Int.toNat_of_nonneg hat.1).symm (by rw [List.length_map]; exact hat.2)) ?_
   refine VA.take (i := 15) rfl (by kernel_rfl) (by kernel_rfl) (by kernel_rfl) rfl rfl (OpV.load_at rfl hB OutW.wi0 Tryz.isAgg3 rfl rfl) ?_
   refine VA.le _ (Le.recast (t := 40) (y := avI (turnO p each (orA o (l.getD q' 0)) (orA o (l.getD q 0)))) rfl (fun w Z u h => by rw [map_getD (turnO p each (orA o (l.getD q' 0))) hat.2 default 0] at h; exact h)) ?_
   refine VA.take (i := 16) rfl (by kernel_rfl) (by kernel_rfl) (by kernel_rfl) rfl rfl (OpV.add rfl rfl rfl ((by have := hk.bd q' (by omega); unfold fits; omega))) ?_
   refine VA.take (i := 17) rfl (by kernel_rfl) (by kernel_rfl) (by kernel_rfl) rfl rfl (OpV.move (.inr rfl) rfl) ?_
   refine VA.done (by kernel_rfl) ?_
   refine VC.sr ?_
   refine VO.mv rfl rfl rfl rfl ?_
   refine VO.mv rfl rfl rfl rfl ?_
   refine VO.val rfl rfl (OpV.nilCheck_at rfl rfl) ?_
   refine VO.val rfl rfl (OpV.fieldAddr_atO 0 rfl Tryz.underlying311 rfl rfl Tryz.sizeOf75 rfl rfl) ?_
   refine VO.val rfl rfl (OpV.load_at rfl hB OutW.no Tryz.isAgg75 rfl rfl) ?_
   refine VO.le _ (Le.recast (t := 46) (y := avL o) rfl (fun w Z u h => h)) ?_
   refine VO.mv rfl rfl rfl rfl ?_
   refine VO.val rfl rfl (OpV.indexAddr_E rfl Tryz.underlying75 Tryz.sizeOf89 rfl rfl (Int.toNat_of_nonneg hat.1).symm hat.2) ?_
   refine VO.val rfl rfl (OpV.fieldAddr_atO 3 rfl Tryz.underlying89 rfl rfl Tryz.sizeOf3 rfl rfl) ?_
   refine VO.val rfl rfl (OpV.load_at rfl hB OutW.no Tryz.isAgg3 rfl rfl) ?_
   refine VO.val rfl rfl (OpV.max2 rfl rfl rfl) ?_
   refine VO.le _ (Le.recast (t := 51) (y := avI (fromP p o l start each q)) rfl (fun w Z u h => by rw [hfr]; exact h)) ?_
   refine VO.ma rfl rfl rfl rfl ?_
   refine VO.nil ?_
   refine VC.sr ?_
   refine VO.mv rfl rfl rfl rfl ?_
   refine VO.mv rfl rfl rfl rfl ?_
   refine VO.val rfl rfl (OpV.nilCheck_at rfl rfl) ?_
   refine VO.val rfl rfl (OpV.fieldAddr_atO 1 rfl Tryz.underlying311 rfl rfl Tryz.sizeOf22 rfl rfl) ?_
   refine VO.val rfl rfl (OpV.load_at rfl hB OutW.no Tryz.isAgg22 rfl rfl) ?_
   refine VO.mv rfl rfl rfl rfl ?_
   refine VO.val rfl rfl (OpV.indexAddr_1 rfl Tryz.underlying22 Tryz.sizeOf3 rfl rfl (Int.toNat_of_nonneg hat.1).symm (by rw [List.length_map]; exact hat.2)) ?_
   refine VO.val rfl rfl (OpV.load_at rfl hB OutW.no Tryz.isAgg3 rfl rfl) ?_
   refine VO.le _ (Le.recast (t := 59) (y := avI (longO p (orA o (l.getD q 0)))) rfl (fun w Z u h => by rw [map_getD (longO p) hat.2 default 0] at h; exact h)) ?_
   refine VO.val rfl rfl (OpV.add rfl rfl rfl ((by unfold fits; rw [← hfe]; omega))) ?_
   refine VO.le _ (Le.recast (t := 60) (y := avI (endP p o l start each q)) rfl (fun w Z u h => by rw [hfe]; exact h)) ?_
   refine VO.val rfl rfl (OpV.fieldAddrO 2 rfl Tryz.underlying245 rfl rfl Tryz.sizeOf3 rfl) ?_
   refine VO.op rfl (OpE.store (i := 0) rfl hB rfl Tryz.sizeOf3 rfl rfl rfl rfl rfl rfl (Nle rfl) trivial ?_)
   refine VO.nil ?_
   refine VC.sr ?_
   refine VO.mv rfl rfl rfl rfl ?_
   refine VO.mv rfl rfl rfl rfl ?_
   refine VO.mv rfl rfl rfl rfl ?_
   refine VO.val rfl rfl (OpV.fieldAddrO 2 rfl Tryz.underlying245 rfl rfl Tryz.sizeOf3 rfl) ?_
   refine VO.val rfl rfl (OpV.load_own (i := 0) rfl hB Tryz.isAgg3 rfl rfl rfl (fun h => h)) ?_
   refine VO.val rfl rfl (OpV.build (pls := #[(0, 1), (1, 1)]) rfl Tryz.zeroValue139 Tryz.underlying139 (fun w => by kernel_rfl) rfl rfl) ?_
   refine VO.op rfl (OpE.callH rfl hB rfl hcd rfl rfl (hdo (l.getD q 0) (winP p o l start each q) (runA step p o l start each a q) hh hat.1 hat.2 hkk) (List.perm_append_comm (l₁ := [_, _]) (l₂ := hh)) (fun _ _ => trivial) ?_)
   rintro _ h2 hk2
   refine VO.le _ (Le.perm (List.perm_append_comm (l₁ := h2) (l₂ := [_, _]))) ?_
   refine VO.nil ?_
   refine VC.seq ?_
   refine VC.draw (fun _ => NoB) hB (by kernel_rfl) ?_
   refine VA.take (i := 0) rfl (by kernel_rfl) (by kernel_rfl) (by kernel_rfl) rfl rfl (OpV.fieldAddrO 2 rfl Tryz.underlying245 rfl rfl Tryz.sizeOf3 rfl) ?_
   refine VA.take (i := 1) rfl (by kernel_rfl) (by kernel_rfl) (by kernel_rfl) rfl rfl (OpV.load_own (i := 0) rfl hB Tryz.isAgg3 rfl rfl rfl Wi.not0) ?_
   refine VA.take (i := 2) rfl (by kernel_rfl) (by kernel_rfl) (by kernel_rfl) rfl rfl (OpV.move (.inl rfl) rfl) ?_
   refine VA.take (i := 3) rfl (by kernel_rfl) (by kernel_rfl) (by kernel_rfl) rfl rfl (OpV.nilCheck_at rfl rfl) ?_
   refine VA.take (i := 4) rfl (by kernel_rfl) (by kernel_rfl) (by kernel_rfl) rfl rfl (OpV.fieldAddr_atO 0 rfl Tryz.underlying311 rfl rfl Tryz.sizeOf75 rfl rfl) ?_
   refine VA.take (i := 5) rfl (by kernel_rfl) (by kernel_rfl) (by kernel_rfl) rfl rfl (OpV.load_at rfl hB OutW.wi0 Tryz.isAgg75 rfl rfl) ?_
   refine VA.le _ (Le.recast (t := 74) (y := avL o) rfl (fun w Z u h => h)) ?_
   refine VA.take (i := 6) rfl (by kernel_rfl) (by kernel_rfl) (by kernel_rfl) rfl rfl (OpV.move (.inl rfl) rfl) ?_
   refine VA.take (i := 7) rfl (by kernel_rfl) (by kernel_rfl) (by kernel_rfl) rfl rfl (OpV.indexAddr_E rfl Tryz.underlying75 Tryz.sizeOf89 rfl rfl (Int.toNat_of_nonneg hat.1).symm hat.2) ?_
   refine VA.take (i := 8) rfl (by kernel_rfl) (by kernel_rfl) (by kernel_rfl) rfl rfl (OpV.fieldAddr_atO 4 rfl Tryz.underlying89 rfl rfl Tryz.sizeOf3 rfl rfl) ?_
   refine VA.take (i := 9) rfl (by kernel_rfl) (by kernel_rfl) (by kernel_rfl) rfl rfl (OpV.load_at rfl hB OutW.wi0 Tryz.isAgg3 rfl rfl) ?_
   refine VA.le _ (Le.recast (t := 78) (y := avI (orA o (l.getD q 0)).due) rfl (fun w Z u h => h)) ?_
   refine VA.take (i := 10) rfl (by kernel_rfl) (by kernel_rfl) (by kernel_rfl) rfl rfl (OpV.gtr rfl rfl rfl) ?_
   refine VA.done (by kernel_rfl) ?_
   refine VC.cond rfl (fun hdb => ?_) (fun hdb => ?_)
   ·have hd := hdb
    try simp only [qqT, qqF, qqN, qqM, qqL, qqE] at hd
    refine VC.seq ?_
    refine VC.draw (fun j b => j = 15 ∧ b = g9) hB (by kernel_rfl) ?_
    refine VA.take (i := 0) rfl (by kernel_rfl) (by kernel_rfl) (by kernel_rfl) rfl rfl (OpV.fieldAddrO 0 rfl Tryz.underlying245 rfl rfl Tryz.sizeOf3 rfl) ?_
    refine VA.take (i := 1) rfl (by kernel_rfl) (by kernel_rfl) (by kernel_rfl) rfl rfl (OpV.load_own (i := 0) rfl hB Tryz.isAgg3 rfl rfl rfl (by first | exact Wi.not1 (by kernel_rfl) | exact Wi.not2 (by kernel_rfl) (by kernel_rfl) | exact Wi.notX (by kernel_rfl))) ?_
    refine VA.take (i := 2) rfl (by kernel_rfl) (by kernel_rfl) (by kernel_rfl) rfl rfl (OpV.fieldAddrO 2 rfl Tryz.underlying245 rfl rfl Tryz.sizeOf3 rfl) ?_
    refine VA.take (i := 3) rfl (by kernel_rfl) (by kernel_rfl) (by kernel_rfl) rfl rfl (OpV.load_own (i := 0) rfl hB Tryz.isAgg3 rfl rfl rfl (by first | exact Wi.not1 (by kernel_rfl) | exact Wi.not2 (by kernel_rfl) (by kernel_rfl) | exact Wi.notX (by kernel_rfl))) ?_
    refine VA.take (i := 4) rfl (by kernel_rfl) (by kernel_rfl) (by kernel_rfl) rfl rfl (OpV.move (.inl rfl) rfl) ?_
    refine VA.take (i := 5) rfl (by kernel_rfl) (by kernel_rfl) (by kernel_rfl) rfl rfl (OpV.nilCheck_at rfl rfl) ?_
    refine VA.take (i := 6) rfl (by kernel_rfl) (by kernel_rfl) (by kernel_rfl) rfl rfl (OpV.fieldAddr_atO 0 rfl Tryz.underlying311 rfl rfl Tryz.sizeOf75 rfl rfl) ?_
    refine VA.take (i := 7) rfl (by kernel_rfl) (by kernel_rfl) (by kernel_rfl) rfl rfl (OpV.load_at rfl hB (by first | exact OutW.wi1 (k := 0) rfl rfl | exact OutW.wi1 (k := 1) rfl rfl) Tryz.isAgg75 rfl rfl) ?_
    refine VA.le _ (Le.recast (t := 87) (y := avL o) rfl (fun w Z u h => h)) ?_
    refine VA.take (i := 8) rfl (by kernel_rfl) (by kernel_rfl) (by kernel_rfl) rfl rfl (OpV.move (.inl rfl) rfl) ?_
    refine VA.take (i := 9) rfl (by kernel_rfl) (by kernel_rfl) (by kernel_rfl) rfl rfl (OpV.indexAddr_E rfl Tryz.underlying75 Tryz.sizeOf89 rfl rfl (Int.toNat_of_nonneg hat.1).symm hat.2) ?_
    refine VA.take (i := 10) rfl (by kernel_rfl) (by kernel_rfl) (by kernel_rfl) rfl rfl (OpV.fieldAddr_atO 4 rfl Tryz.underlying89 rfl rfl Tryz.sizeOf3 rfl rfl) ?_
    refine VA.take (i := 11) rfl (by kernel_rfl) (by kernel_rfl) (by kernel_rfl) rfl rfl (OpV.load_at rfl hB (by first | exact OutW.wi1 (k := 0) rfl rfl | exact OutW.wi1 (k := 1) rfl rfl) Tryz.isAgg3 rfl rfl) ?_
    refine VA.le _ (Le.recast (t := 91) (y := avI (orA o (l.getD q 0)).due) rfl (fun w Z u h => h)) ?_
    refine VA.take (i := 12) rfl (by kernel_rfl) (by kernel_rfl) (by kernel_rfl) rfl rfl (OpV.sub rfl rfl rfl (by unfold fits; omega)) ?_
    refine VA.take (i := 13) rfl (by kernel_rfl) (by kernel_rfl) (by kernel_rfl) rfl rfl (OpV.add rfl rfl rfl (by unfold fits; omega)) ?_
    refine VA.take (i := 14) rfl (by kernel_rfl) (by kernel_rfl) (by kernel_rfl) rfl rfl (OpV.fieldAddrO 0 rfl Tryz.underlying245 rfl rfl Tryz.sizeOf3 rfl) ?_
    refine VA.all (rs := [15]) (by kernel_rfl) (by decide) ?_
    refine ⟨⟨_, rfl, .inl rfl, ?_⟩, trivial⟩
    refine OpE.store (i := 0) rfl hB rfl Tryz.sizeOf3 rfl rfl rfl rfl rfl rfl (Nle rfl) (by first | exact ⟨rfl, rfl⟩ | exact .inl ⟨rfl, rfl⟩ | exact .inr ⟨rfl, rfl⟩ | exact ⟨rfl, trivial⟩ | exact .inl ⟨rfl, trivial⟩ | exact .inr ⟨rfl, trivial⟩ | exact ⟨by decide, rfl⟩) ?_
    refine VA.done (by kernel_rfl) ?_
    refine VC.region ?_
    refine VO.val rfl rfl (OpV.fieldAddrO 1 rfl Tryz.underlying245 rfl rfl Tryz.sizeOf3 rfl) ?_
    refine VO.val rfl rfl (OpV.load_own (i := 0) rfl hB Tryz.isAgg3 rfl rfl rfl (fun h => h)) ?_
    refine VO.val rfl rfl (OpV.add rfl rfl rfl (by unfold fits; omega)) ?_
    refine VO.val rfl rfl (OpV.fieldAddrO 1 rfl Tryz.underlying245 rfl rfl Tryz.sizeOf3 rfl) ?_
    refine VO.op rfl (OpE.store (i := 0) rfl hB rfl Tryz.sizeOf3 rfl rfl rfl rfl rfl rfl (Nle rfl) trivial ?_)
    refine VO.nil ?_
    refine VC.region ?_
    refine VO.val rfl rfl (OpV.add rfl rfl rfl (by unfold fits; omega)) ?_
    refine VO.mv rfl rfl rfl rfl ?_
    refine VO.nil ?_
    exact Exists.intro (⟨(h2, q + 1), by show q + 1 ≤ _; omega, hk2⟩) (And.intro (Le.mkP hB ⟨rfl, rfl, rfl, rfl, rfl, rfl, rfl, rfl, rfl, trivial⟩ (List.Sublist.refl _) (List.Perm.of_eq (by first | exact congrArg (fun z => boxRes g9 z 245 :: .box g8 ⟨[avI 0, avI 0, avI 0], 245, 3⟩ :: h2) (resP_t (p := p) (o := o) (l := l) (s := start) (e := each) (q := q) hd).symm | exact congrArg (fun z => boxRes g9 z 245 :: .box g8 ⟨[avI 0, avI 0, avI 0], 245, 3⟩ :: h2) (resP_f (p := p) (o := o) (l := l) (s := start) (e := each) (q := q) (Int.not_lt.2 hd)).symm)) (Nat.le_refl _)) (by first | omega | (show _ < _; omega) | (simp only []; omega)))
   ·have hd := hdb
    try simp only [qqT, qqF, qqN, qqM, qqL, qqE] at hd
    refine VC.skip ?_
    refine VC.region ?_
    refine VO.val rfl rfl (OpV.add rfl rfl rfl (by unfold fits; omega)) ?_
    refine VO.mv rfl rfl rfl rfl ?_
    refine VO.nil ?_
    exact Exists.intro (⟨(h2, q + 1), by show q + 1 ≤ _; omega, hk2⟩) (And.intro (Le.mkP hB ⟨rfl, rfl, rfl, rfl, rfl, rfl, rfl, rfl, rfl, trivial⟩ (List.Sublist.refl _) (List.Perm.of_eq (by first | exact congrArg (fun z => boxRes g9 z 245 :: .box g8 ⟨[avI 0, avI 0, avI 0], 245, 3⟩ :: h2) (resP_t (p := p) (o := o) (l := l) (s := start) (e := each) (q := q) hd).symm | exact congrArg (fun z => boxRes g9 z 245 :: .box g8 ⟨[avI 0, avI 0, avI 0], 245, 3⟩ :: h2) (resP_f (p := p) (o := o) (l := l) (s := start) (e := each) (q := q) (Int.not_lt.2 hd)).symm)) (Nat.le_refl _)) (by first | omega | (show _ < _; omega) | (simp only []; omega)))
  ·have aH2 := aH2b
   try simp only [qqT, qqF, qqN, qqM, qqL, qqE] at aH2
   have hq0 : q = 0 := by omega
   have hfr0 : fromP p o l start each q = max start (orA o (l.getD q 0)).ready := by rw [hq0]; rfl
   refine VC.skip ?_
   refine VC.sr ?_
   refine VO.mv rfl rfl rfl rfl ?_
   refine VO.mv rfl rfl rfl rfl ?_
   refine VO.val rfl rfl (OpV.nilCheck_at rfl rfl) ?_
   refine VO.val rfl rfl (OpV.fieldAddr_atO 0 rfl Tryz.underlying311 rfl rfl Tryz.sizeOf75 rfl rfl) ?_
   refine VO.val rfl rfl (OpV.load_at rfl hB OutW.no Tryz.isAgg75 rfl rfl) ?_
   refine VO.le _ (Le.recast (t := 46) (y := avL o) rfl (fun w Z u h => h)) ?_
   refine VO.mv rfl rfl rfl rfl ?_
   refine VO.val rfl rfl (OpV.indexAddr_E rfl Tryz.underlying75 Tryz.sizeOf89 rfl rfl (Int.toNat_of_nonneg hat.1).symm hat.2) ?_
   refine VO.val rfl rfl (OpV.fieldAddr_atO 3 rfl Tryz.underlying89 rfl rfl Tryz.sizeOf3 rfl rfl) ?_
   refine VO.val rfl rfl (OpV.load_at rfl hB OutW.no Tryz.isAgg3 rfl rfl) ?_
   refine VO.val rfl rfl (OpV.max2 rfl rfl rfl) ?_
   refine VO.le _ (Le.recast (t := 51) (y := avI (fromP p o l start each q)) rfl (fun w Z u h => by rw [hfr0]; exact h)) ?_
   refine VO.ma rfl rfl rfl rfl ?_
   refine VO.nil ?_
   refine VC.sr ?_
   refine VO.mv rfl rfl rfl rfl ?_
   refine VO.mv rfl rfl rfl rfl ?_
   refine VO.val rfl rfl (OpV.nilCheck_at rfl rfl) ?_
   refine VO.val rfl rfl (OpV.fieldAddr_atO 1 rfl Tryz.underlying311 rfl rfl Tryz.sizeOf22 rfl rfl) ?_
   refine VO.val rfl rfl (OpV.load_at rfl hB OutW.no Tryz.isAgg22 rfl rfl) ?_
   refine VO.mv rfl rfl rfl rfl ?_
   refine VO.val rfl rfl (OpV.indexAddr_1 rfl Tryz.underlying22 Tryz.sizeOf3 rfl rfl (Int.toNat_of_nonneg hat.1).symm (by rw [List.length_map]; exact hat.2)) ?_
   refine VO.val rfl rfl (OpV.load_at rfl hB OutW.no Tryz.isAgg3 rfl rfl) ?_
   refine VO.le _ (Le.recast (t := 59) (y := avI (longO p (orA o (l.getD q 0)))) rfl (fun w Z u h => by rw [map_getD (longO p) hat.2 default 0] at h; exact h)) ?_
   refine VO.val rfl rfl (OpV.add rfl rfl rfl ((by unfold fits; rw [← hfe]; omega))) ?_
   refine VO.le _ (Le.recast (t := 60) (y := avI (endP p o l start each q)) rfl (fun w Z u h => by rw [hfe]; exact h)) ?_
   refine VO.val rfl rfl (OpV.fieldAddrO 2 rfl Tryz.underlying245 rfl rfl Tryz.sizeOf3 rfl) ?_
   refine VO.op rfl (OpE.store (i := 0) rfl hB rfl Tryz.sizeOf3 rfl rfl rfl rfl rfl rfl (Nle rfl) trivial ?_)
   refine VO.nil ?_
   refine VC.sr ?_
   refine VO.mv rfl rfl rfl rfl ?_
   refine VO.mv rfl rfl rfl rfl ?_
   refine VO.mv rfl rfl rfl rfl ?_
   refine VO.val rfl rfl (OpV.fieldAddrO 2 rfl Tryz.underlying245 rfl rfl Tryz.sizeOf3 rfl) ?_
   refine VO.val rfl rfl (OpV.load_own (i := 0) rfl hB Tryz.isAgg3 rfl rfl rfl (fun h => h)) ?_
   refine VO.val rfl rfl (OpV.build (pls := #[(0, 1), (1, 1)]) rfl Tryz.zeroValue139 Tryz.underlying139 (fun w => by kernel_rfl) rfl rfl) ?_
   refine VO.op rfl (OpE.callH rfl hB rfl hcd rfl rfl (hdo (l.getD q 0) (winP p o l start each q) (runA step p o l start each a q) hh hat.1 hat.2 hkk) (List.perm_append_comm (l₁ := [_, _]) (l₂ := hh)) (fun _ _ => trivial) ?_)
   rintro _ h2 hk2
   refine VO.le _ (Le.perm (List.perm_append_comm (l₁ := h2) (l₂ := [_, _]))) ?_
   refine VO.nil ?_
   refine VC.seq ?_
   refine VC.draw (fun _ => NoB) hB (by kernel_rfl) ?_
   refine VA.take (i := 0) rfl (by kernel_rfl) (by kernel_rfl) (by kernel_rfl) rfl rfl (OpV.fieldAddrO 2 rfl Tryz.underlying245 rfl rfl Tryz.sizeOf3 rfl) ?_
   refine VA.take (i := 1) rfl (by kernel_rfl) (by kernel_rfl) (by kernel_rfl) rfl rfl (OpV.load_own (i := 0) rfl hB Tryz.isAgg3 rfl rfl rfl Wi.not0) ?_
   refine VA.take (i := 2) rfl (by kernel_rfl) (by kernel_rfl) (by kernel_rfl) rfl rfl (OpV.move (.inl rfl) rfl) ?_
   refine VA.take (i := 3) rfl (by kernel_rfl) (by kernel_rfl) (by kernel_rfl) rfl rfl (OpV.nilCheck_at rfl rfl) ?_
   refine VA.take (i := 4) rfl (by kernel_rfl) (by kernel_rfl) (by kernel_rfl) rfl rfl (OpV.fieldAddr_atO 0 rfl Tryz.underlying311 rfl rfl Tryz.sizeOf75 rfl rfl) ?_
   refine VA.take (i := 5) rfl (by kernel_rfl) (by kernel_rfl) (by kernel_rfl) rfl rfl (OpV.load_at rfl hB OutW.wi0 Tryz.isAgg75 rfl rfl) ?_
   refine VA.le _ (Le.recast (t := 74) (y := avL o) rfl (fun w Z u h => h)) ?_
   refine VA.take (i := 6) rfl (by kernel_rfl) (by kernel_rfl) (by kernel_rfl) rfl rfl (OpV.move (.inl rfl) rfl) ?_
   refine VA.take (i := 7) rfl (by kernel_rfl) (by kernel_rfl) (by kernel_rfl) rfl rfl (OpV.indexAddr_E rfl Tryz.underlying75 Tryz.sizeOf89 rfl rfl (Int.toNat_of_nonneg hat.1).symm hat.2) ?_
   refine VA.take (i := 8) rfl (by kernel_rfl) (by kernel_rfl) (by kernel_rfl) rfl rfl (OpV.fieldAddr_atO 4 rfl Tryz.underlying89 rfl rfl Tryz.sizeOf3 rfl rfl) ?_
   refine VA.take (i := 9) rfl (by kernel_rfl) (by kernel_rfl) (by kernel_rfl) rfl rfl (OpV.load_at rfl hB OutW.wi0 Tryz.isAgg3 rfl rfl) ?_
   refine VA.le _ (Le.recast (t := 78) (y := avI (orA o (l.getD q 0)).due) rfl (fun w Z u h => h)) ?_
   refine VA.take (i := 10) rfl (by kernel_rfl) (by kernel_rfl) (by kernel_rfl) rfl rfl (OpV.gtr rfl rfl rfl) ?_
   refine VA.done (by kernel_rfl) ?_
   refine VC.cond rfl (fun hdb => ?_) (fun hdb => ?_)
   ·have hd := hdb
    try simp only [qqT, qqF, qqN, qqM, qqL, qqE] at hd
    refine VC.seq ?_
    refine VC.draw (fun j b => j = 15 ∧ b = g9) hB (by kernel_rfl) ?_
    refine VA.take (i := 0) rfl (by kernel_rfl) (by kernel_rfl) (by kernel_rfl) rfl rfl (OpV.fieldAddrO 0 rfl Tryz.underlying245 rfl rfl Tryz.sizeOf3 rfl) ?_
    refine VA.take (i := 1) rfl (by kernel_rfl) (by kernel_rfl) (by kernel_rfl) rfl rfl (OpV.load_own (i := 0) rfl hB Tryz.isAgg3 rfl rfl rfl (by first | exact Wi.not1 (by kernel_rfl) | exact Wi.not2 (by kernel_rfl) (by kernel_rfl) | exact Wi.notX (by kernel_rfl))) ?_
    refine VA.take (i := 2) rfl (by kernel_rfl) (by kernel_rfl) (by kernel_rfl) rfl rfl (OpV.fieldAddrO 2 rfl Tryz.underlying245 rfl rfl Tryz.sizeOf3 rfl) ?_
    refine VA.take (i := 3) rfl (by kernel_rfl) (by kernel_rfl) (by kernel_rfl) rfl rfl (OpV.load_own (i := 0) rfl hB Tryz.isAgg3 rfl rfl rfl (by first | exact Wi.not1 (by kernel_rfl) | exact Wi.not2 (by kernel_rfl) (by kernel_rfl) | exact Wi.notX (by kernel_rfl))) ?_
    refine VA.take (i := 4) rfl (by kernel_rfl) (by kernel_rfl) (by kernel_rfl) rfl rfl (OpV.move (.inl rfl) rfl) ?_
    refine VA.take (i := 5) rfl (by kernel_rfl) (by kernel_rfl) (by kernel_rfl) rfl rfl (OpV.nilCheck_at rfl rfl) ?_
    refine VA.take (i := 6) rfl (by kernel_rfl) (by kernel_rfl) (by kernel_rfl) rfl rfl (OpV.fieldAddr_atO 0 rfl Tryz.underlying311 rfl rfl Tryz.sizeOf75 rfl rfl) ?_
    refine VA.take (i := 7) rfl (by kernel_rfl) (by kernel_rfl) (by kernel_rfl) rfl rfl (OpV.load_at rfl hB (by first | exact OutW.wi1 (k := 0) rfl rfl | exact OutW.wi1 (k := 1) rfl rfl) Tryz.isAgg75 rfl rfl) ?_
    refine VA.le _ (Le.recast (t := 87) (y := avL o) rfl (fun w Z u h => h)) ?_
    refine VA.take (i := 8) rfl (by kernel_rfl) (by kernel_rfl) (by kernel_rfl) rfl rfl (OpV.move (.inl rfl) rfl) ?_
    refine VA.take (i := 9) rfl (by kernel_rfl) (by kernel_rfl) (by kernel_rfl) rfl rfl (OpV.indexAddr_E rfl Tryz.underlying75 Tryz.sizeOf89 rfl rfl (Int.toNat_of_nonneg hat.1).symm hat.2) ?_
    refine VA.take (i := 10) rfl (by kernel_rfl) (by kernel_rfl) (by kernel_rfl) rfl rfl (OpV.fieldAddr_atO 4 rfl Tryz.underlying89 rfl rfl Tryz.sizeOf3 rfl rfl) ?_
    refine VA.take (i := 11) rfl (by kernel_rfl) (by kernel_rfl) (by kernel_rfl) rfl rfl (OpV.load_at rfl hB (by first | exact OutW.wi1 (k := 0) rfl rfl | exact OutW.wi1 (k := 1) rfl rfl) Tryz.isAgg3 rfl rfl) ?_
    refine VA.le _ (Le.recast (t := 91) (y := avI (orA o (l.getD q 0)).due) rfl (fun w Z u h => h)) ?_
    refine VA.take (i := 12) rfl (by kernel_rfl) (by kernel_rfl) (by kernel_rfl) rfl rfl (OpV.sub rfl rfl rfl (by unfold fits; omega)) ?_
    refine VA.take (i := 13) rfl (by kernel_rfl) (by kernel_rfl) (by kernel_rfl) rfl rfl (OpV.add rfl rfl rfl (by unfold fits; omega)) ?_
    refine VA.take (i := 14) rfl (by kernel_rfl) (by kernel_rfl) (by kernel_rfl) rfl rfl (OpV.fieldAddrO 0 rfl Tryz.underlying245 rfl rfl Tryz.sizeOf3 rfl) ?_
    refine VA.all (rs := [15]) (by kernel_rfl) (by decide) ?_
    refine ⟨⟨_, rfl, .inl rfl, ?_⟩, trivial⟩
    refine OpE.store (i := 0) rfl hB rfl Tryz.sizeOf3 rfl rfl rfl rfl rfl rfl (Nle rfl) (by first | exact ⟨rfl, rfl⟩ | exact .inl ⟨rfl, rfl⟩ | exact .inr ⟨rfl, rfl⟩ | exact ⟨rfl, trivial⟩ | exact .inl ⟨rfl, trivial⟩ | exact .inr ⟨rfl, trivial⟩ | exact ⟨by decide, rfl⟩) ?_
    refine VA.done (by kernel_rfl) ?_
    refine VC.region ?_
    refine VO.val rfl rfl (OpV.fieldAddrO 1 rfl Tryz.underlying245 rfl rfl Tryz.sizeOf3 rfl) ?_
    refine VO.val rfl rfl (OpV.load_own (i := 0) rfl hB Tryz.isAgg3 rfl rfl rfl (fun h => h)) ?_
    refine VO.val rfl rfl (OpV.add rfl rfl rfl (by unfold fits; omega)) ?_
    refine VO.val rfl rfl (OpV.fieldAddrO 1 rfl Tryz.underlying245 rfl rfl Tryz.sizeOf3 rfl) ?_
    refine VO.op rfl (OpE.store (i := 0) rfl hB rfl Tryz.sizeOf3 rfl rfl rfl rfl rfl rfl (Nle rfl) trivial ?_)
    refine VO.nil ?_
    refine VC.region ?_
    refine VO.val rfl rfl (OpV.add rfl rfl rfl (by unfold fits; omega)) ?_
    refine VO.mv rfl rfl rfl rfl ?_
    refine VO.nil ?_
    exact Exists.intro (⟨(h2, q + 1), by show q + 1 ≤ _; omega, hk2⟩) (And.intro (Le.mkP hB ⟨rfl, rfl, rfl, rfl, rfl, rfl, rfl, rfl, rfl, trivial⟩ (List.Sublist.refl _) (List.Perm.of_eq (by first | exact congrArg (fun z => boxRes g9 z 245 :: .box g8 ⟨[avI 0, avI 0, avI 0], 245, 3⟩ :: h2) (resP_t (p := p) (o := o) (l := l) (s := start) (e := each) (q := q) hd).symm | exact congrArg (fun z => boxRes g9 z 245 :: .box g8 ⟨[avI 0, avI 0, avI 0], 245, 3⟩ :: h2) (resP_f (p := p) (o := o) (l := l) (s := start) (e := each) (q := q) (Int.not_lt.2 hd)).symm)) (Nat.le_refl _)) (by first | omega | (show _ < _; omega) | (simp only []; omega)))
   ·have hd := hdb
    try simp only [qqT, qqF, qqN, qqM, qqL, qqE] at hd
    refine VC.skip ?_
    refine VC.region ?_
    refine VO.val rfl rfl (OpV.add rfl rfl rfl (by unfold fits; omega)) ?_
    refine VO.mv rfl rfl rfl rfl ?_
    refine VO.nil ?_
    exact Exists.intro (⟨(h2, q + 1), by show q + 1 ≤ _; omega, hk2⟩) (And.intro (Le.mkP hB ⟨rfl, rfl, rfl, rfl, rfl, rfl, rfl, rfl, rfl, trivial⟩ (List.Sublist.refl _) (List.Perm.of_eq (by first | exact congrArg (fun z => boxRes g9 z 245 :: .box g8 ⟨[avI 0, avI 0, avI 0], 245, 3⟩ :: h2) (resP_t (p := p) (o := o) (l := l) (s := start) (e := each) (q := q) hd).symm | exact congrArg (fun z => boxRes g9 z 245 :: .box g8 ⟨[avI 0, avI 0, avI 0], 245, 3⟩ :: h2) (resP_f (p := p) (o := o) (l := l) (s := start) (e := each) (q := q) (Int.not_lt.2 hd)).symm)) (Nat.le_refl _)) (by first | omega | (show _ < _; omega) | (simp only []; omega)))
 ·have aH1 := aH1b
  try simp only [qqT, qqF, qqN, qqM, qqL, qqE] at aH1
  obtain rfl : q = l.length := by omega
  refine VC.exit ?_
  refine VC.sr ?_
  refine VO.val rfl rfl (OpV.loadK_own (i := 0) rfl hB Tryz.isAgg245 Tryz.sizeOf245 rfl rfl rfl (fun h => h)) ?_
  refine VO.op rfl (OpE.store (i := 1) rfl hB rfl Tryz.sizeOf245 rfl rfl rfl rfl rfl rfl (Nle rfl) trivial ?_)
  refine VO.nil ?_
  refine VC.ret ?_
  exact Exists.intro _ (And.intro (RetV.one Tryz.results202 ((by first | exact ResV.cellK (i := 0) Tryz.isAgg245 Tryz.sizeOf245 rfl rfl rfl | exact ResV.cellK (i := 1) Tryz.isAgg245 Tryz.sizeOf245 rfl rfl rfl))) (⟨hh, _, _, hkk, rfl, rfl⟩))
theorem made_win (n : Nat) : (madeCells (Value.agg #[.int .i64 0, .int .i64 0]).cells (n * 2)).toList.map AV.v = rowL (List.replicate n (default : WinS)) := by
 apply List.ext_getElem
 ·rw [rowL_len]; simp [size_madeCells]; rfl
 intro i h1 h2
 have hi : i < n * 2 := by simpa [size_madeCells] using h1
 have e2 := rowL_get' (List.replicate n (default : WinS)) (i := i) (by rw [List.length_replicate]; exact hi)
 rw [List.getElem?_eq_getElem h2] at e2
 have e3 := Option.some.inj e2
 rw [e3]
 have hd : (List.replicate n (default : WinS)).getD (i / Sxc.k WinS) default = default := by
  rw [List.getD_eq_getElem?_getD, List.getElem?_replicate]; split <;> rfl
 rw [hd]
 have hm : i % 2 = 0 ∨ i % 2 = 1 := by omega
 have hk : Sxc.k WinS = 2 := rfl
 rw [hk]
 simp only [List.getElem_map, Array.getElem_toList, madeCells, Array.getElem_map, Array.getElem_range]
 rcases hm with hm | hm <;> rw [show (Value.agg #[.int .i64 0, .int .i64 0]).cells = #[.int .i64 0, .int .i64 0] from rfl, show (#[Value.int .i64 0, Value.int .i64 0]).size = 2 from rfl, hm] <;> rfl
set_option maxRecDepth 100000 in
theorem plan_Times1 {n : Nat} {i : Int} {x : WinS} {l : List WinS} {g14 g29 : Nat} (hl : l.length = n) (h0 : 0 ≤ i) (h1 : i.toNat < n) :
  SpecH Tryz.prog 203 [avI i, .agg [avI x.fr, avI x.to], .v (.pointer (some ⟨g14, 0, none⟩))] [.box g14 ⟨[.v (.slice (some ⟨g29, 0, none⟩) n n)], 133, 1⟩, .box g29 ⟨rowL l, 139, n * 2⟩] (fun y hp' => hp' = [.box g14 ⟨[.v (.slice (some ⟨g29, 0, none⟩) n n)], 133, 1⟩, .box g29 ⟨rowL (l.set i.toNat x), 139, n * 2⟩]) := by
 refine SpecH.of_VC Tryz.func203 rfl Tryz.ntmps203 (Nle rfl) fun w A hB => ?_
 have hnew : True := trivial
 refine VC.sr ?_
 refine VO.op rfl (OpE.box rfl hB rfl rfl rfl ?_)
 intro g4
 refine VO.nil ?_
 refine VC.region ?_
 refine VO.val rfl rfl (OpV.load_own (i := 0) rfl hB Tryz.isAgg133 rfl rfl rfl (fun h => h)) ?_
 refine VO.mv rfl rfl rfl rfl ?_
 refine VO.val rfl rfl (OpV.loadK_own (i := 2) rfl hB Tryz.isAgg139 Tryz.sizeOf139 rfl rfl rfl (fun h => h)) ?_
 refine VO.le _ (Le.pickH [0, 1] rfl rfl) ?_
 refine VO.val rfl rfl (OpV.indexAddr_q rfl Tryz.underlying133 Tryz.sizeOf139 rfl rfl (Int.toNat_of_nonneg h0).symm h1) ?_
 refine VO.op rfl (OpE.storeE (i := 1) rfl hB rfl Tryz.sizeOf139 rfl rfl rfl rfl rfl rfl (rowL_inE rfl (by omega)) (rowL_setAll (x := x) rfl (by omega)) trivial ?_)
 refine VO.nil ?_
 exact Exists.intro _ (And.intro (RetV.none Tryz.results203) (rfl))
def KT (n g14 g29 : Nat) (a : List WinS) (h : List Ent) : Prop := a.length = n ∧ h = [.box g14 ⟨[.v (.slice (some ⟨g29, 0, none⟩) n n)], 133, 1⟩, .box g29 ⟨rowL a, 139, n * 2⟩]
theorem times_does {n g14 g29 : Nat} : DoesW n (KT n g14 g29) (fun (a : List WinS) i w => a.set i.toNat w) Tryz.prog 203 #[.pointer (some ⟨g14, 0, none⟩)] := by
 rintro i w a h h0 h1 ⟨hl, rfl⟩
 refine (plan_Times1 (x := w) (l := a) hl h0 h1).mono ?_
 rintro y hp' rfl
 exact ⟨by rw [List.length_set]; exact hl, rfl⟩
theorem flat_win (xs : List WinS) : FlatA (rowL xs) := flat_rowL (fun x j hj => by
 match j, hj with
 | 0, _ => exact ⟨_, rfl⟩
 | 1, _ => exact ⟨_, rfl⟩) xs
set_option maxRecDepth 100000 in
set_option maxHeartbeats 4000000 in
theorem plan_Times {p : List PaceS} {o : List OrdrS} {l : List Int} {start each : Int} (hp : SmPc p) (ho : SmOr o) (hl : l.length ≤ 1000000) :
  SpecN Tryz.prog 89 [avL p, avL o, avInts l, avI start, avI each] (fun y => y = .tup [avL (timesR p o l start each), avI (scheF p o l start each)]) := by
 refine SpecN.of_VCN Tryz.func89 rfl Tryz.ntmps89 (Nle rfl) fun w A hB => ?_
 have hnew : True := trivial
 refine VC.sr ?_
 refine VO.ma rfl rfl rfl rfl ?_
 refine VO.ma rfl rfl rfl rfl ?_
 refine VO.nil ?_
 refine VC.sr ?_
 refine VO.mv rfl rfl rfl rfl ?_
 refine VO.mv rfl rfl rfl rfl ?_
 refine VO.mv rfl rfl rfl rfl ?_
 refine VO.mv rfl rfl rfl rfl ?_
 refine VO.mv rfl rfl rfl rfl ?_
 refine VO.op rfl (OpE.call rfl hB rfl Tryz.call201 rfl (plan_scheduled hp ho hl) ?_)
 rintro _ rfl
 refine VO.mv rfl rfl rfl rfl ?_
 refine VO.val rfl rfl (OpV.extract rfl rfl rfl) ?_
 refine VO.val rfl rfl (OpV.extract rfl rfl rfl) ?_
 refine VO.ma rfl rfl rfl rfl ?_
 refine VO.ma rfl rfl rfl rfl ?_
 refine VO.nil ?_
 refine VC.seq ?_
 refine VC.sr ?_
 refine VO.mv rfl rfl rfl rfl ?_
 refine VO.val rfl rfl (OpV.neq rfl rfl rfl) ?_
 refine VO.nil ?_
 refine VC.cond rfl (fun h0b => ?_) (fun h0b => ?_)
 ·have h0 := h0b
  try simp only [qqT, qqF, qqN, qqM, qqL, qqE] at h0
  have hE : timesR p o l start each = [] := by rw [timesR, if_neg h0]
  refine VC.sr ?_
  refine VO.mv rfl rfl rfl rfl ?_
  refine VO.ma rfl rfl rfl rfl ?_
  refine VO.ma rfl rfl rfl rfl ?_
  refine VO.nil ?_
  refine VC.ret ?_
  exact Exists.intro _ (And.intro (RetN.two Tryz.results89 (ResN.nilE rfl) (ResN.v rfl)) (by rw [hE]; rfl))
 ·have h0 := h0b
  try simp only [qqT, qqF, qqN, qqM, qqL, qqE] at h0
  have h00 : scheF p o l start each = 0 := by omega
  have hk := schOk h00
  have hol := hk.ook.len
  have hE : timesR p o l start each = timesQ p o l start each l.length := by rw [timesR, if_pos h00]
  refine VC.le _ (Le.recast (t := 12) (y := .at_ 3 (schC p o each)) rfl (fun w Z u h => by rw [← schAV_ok h00]; exact h)) ?_
  refine VC.skip ?_
  refine VC.sr ?_
  refine VO.mv rfl rfl rfl rfl ?_
  refine VO.val rfl rfl (OpV.len_im rfl Tryz.underlying75 rfl) ?_
  refine VO.op rfl (OpE.make rfl hB rfl Tryz.underlying133 (infoOf Tryz.t139 2 (by kernel_rfl) rfl rfl) (by decide) rfl rfl (n := o.length) rfl rfl (by omega) (made_win o.length) ?_)
  intro g29
  rw [show (rowL (List.replicate o.length (default : WinS))).length = o.length * 2 by rw [rowL_len, List.length_replicate]; rfl]
  refine VO.op rfl (OpE.alloc rfl hB rfl Tryz.zeroValue133 rfl ?_)
  intro g14
  refine VO.op rfl (OpE.store (i := 1) rfl hB rfl Tryz.sizeOf133 rfl rfl rfl rfl rfl rfl (Nle rfl) trivial ?_)
  refine VO.nil ?_
  refine VC.seq ?_
  refine VC.le _ (Le.pickH [1, 0] rfl rfl) ?_
  refine VC.region ?_
  refine VO.mv rfl rfl rfl rfl ?_
  refine VO.mv rfl rfl rfl rfl ?_
  refine VO.mv rfl rfl rfl rfl ?_
  refine VO.val rfl rfl (OpV.makeFunc1 rfl rfl) ?_
  refine VO.op rfl (OpE.callH0 rfl hB rfl Tryz.call202 rfl rfl (plan_run hk Tryz.call203 times_does (a := List.replicate o.length default) ⟨by simp, rfl⟩) (List.Perm.refl _) (fun _ _ => trivial) ?_)
  rintro _ _ ⟨_, e1, e2, ⟨hll, rfl⟩, rfl, rfl⟩
  refine VO.le _ (Le.drop 2) ?_
  refine VO.nil ?_
  refine VC.seq ?_
  rw [runA_times]
  refine VC.region ?_
  refine VO.val rfl rfl (OpV.load_own (i := 0) rfl hB Tryz.isAgg133 rfl rfl rfl (fun h => h)) ?_
  refine VO.ma rfl rfl rfl rfl ?_
  refine VO.ma rfl rfl rfl rfl ?_
  refine VO.nil ?_
  refine VC.ret ?_
  exact Exists.intro _ (And.intro (RetN.two Tryz.results89 (ResN.box (i := 1) rfl rfl (by rw [rowL_len, timesQ_len]; exact Nat.le_refl _) (Nat.le_refl _) (by simp only [maxLen]; omega) (flat_win _) (fun w Z u h => by simp only [Nat.zero_add] at h; exact Rep.rowL (timesQ_len _ _ _ _ _ _).symm h)) (ResN.v rfl)) (by rw [hE, h00]))
end Go.Proofs.YtaaokimiadfidaaGreatDoor
