/- Part 3 of a proof: the walks and laws that it needs. -/
import Derived.Test.YtaaokimiadfidaaGreatDoorZS2
namespace Go.Proofs.YtaaokimiadfidaaGreatDoor
open Go.RowKit
set_option linter.unusedVariables false
set_option linter.unusedSimpArgs false
set_option maxRecDepth 100000 in
theorem panel_isSize {n : Int}  :
  SpecN Tryz.prog 283 [avI n] (fun y => y = avB (!outR n 1 500000)) := by
 refine SpecN.of_VCN Tryz.func283 rfl Tryz.ntmps283 (Nle rfl) fun w A hB => ?_
 have hnew : True := trivial
 refine VC.sr ?_
 refine VO.ma rfl rfl rfl rfl ?_
 refine VO.nil ?_
 refine VC.sr ?_
 refine VO.mv rfl rfl rfl rfl ?_
 refine VO.op rfl (OpE.call rfl hB rfl Tryz.call119 rfl (SpecN.spec (kit_Outside)) ?_)
 rintro _ rfl
 refine VO.val rfl rfl (OpV.not rfl rfl) ?_
 refine VO.ma rfl rfl rfl rfl ?_
 refine VO.nil ?_
 refine VC.ret ?_
 exact Exists.intro _ (And.intro (RetN.one Tryz.results283 (ResN.v rfl)) (rfl))
set_option maxRecDepth 100000 in
theorem panel_placementFault {p : ProdS} {i : Nat} (hs : SmP p) (hi : i < p.places.length) :
  SpecN Tryz.prog 284 [avProd p, avI (i : Int)] (fun y => y = avI (placeE p i)) := by
 refine SpecN.of_VCN Tryz.func284 rfl Tryz.ntmps284 (Nle rfl) fun w A hB => ?_
 have hnew : True := trivial
 refine VC.seq ?_
 have hl := hs.len
 refine VC.region ?_
 refine VO.op rfl (OpE.box rfl hB rfl rfl rfl ?_)
 intro g2
 refine VO.ma rfl rfl rfl rfl ?_
 refine VO.nil ?_
 refine VC.sr ?_
 refine VO.val rfl rfl (OpV.fieldAddrO 3 rfl Tryz.underlying124 rfl rfl Tryz.sizeOf122 rfl) ?_
 refine VO.val rfl rfl (OpV.load_own (i := 0) rfl hB Tryz.isAgg122 rfl rfl rfl (fun h => h)) ?_
 refine VO.mv rfl rfl rfl rfl ?_
 refine VO.val rfl rfl (OpV.indexAddr_E rfl Tryz.underlying122 Tryz.sizeOf187 rfl rfl rfl (by omega)) ?_
 refine VO.val rfl rfl (OpV.loadK_at rfl hB OutW.no Tryz.isAgg187 Tryz.sizeOf187 rfl rfl) ?_
 refine VO.op rfl (OpE.alloc rfl hB rfl Tryz.zeroValue187 rfl ?_)
 intro g5
 refine VO.op rfl (OpE.store (i := 1) rfl hB rfl Tryz.sizeOf187 rfl rfl rfl rfl rfl rfl (Nle rfl) trivial ?_)
 refine VO.nil ?_
 refine VC.seq ?_
 refine VC.block ?_
 refine VC.sr ?_
 refine VO.val rfl rfl (OpV.fieldAddrO 0 rfl Tryz.underlying187 rfl rfl Tryz.sizeOf9 rfl) ?_
 refine VO.val rfl rfl (OpV.load_own (i := 1) rfl hB Tryz.isAgg9 rfl rfl rfl (fun h => h)) ?_
 refine VO.op rfl (OpE.call rfl hB rfl Tryz.call116 rfl (SpecN.spec (kit_IsKey (by have := hs.name i; omega))) ?_)
 rintro _ rfl
 refine VO.val rfl rfl (OpV.not rfl rfl) ?_
 refine VO.mv rfl rfl rfl rfl ?_
 refine VO.opG rfl rfl rfl rfl (fun aK1b => ?_) (fun aK1b => ?_)
 ·replace aK1b : _ = false := aK1b
  have aK1 := aK1b
  try simp only [qqT, qqF, qqN, qqM, qqL, qqE] at aK1
  refine OpE.val (W := NoB) (OpV.fieldAddrO 1 rfl Tryz.underlying187 rfl rfl Tryz.sizeOf9 rfl) rfl ?_
  refine VO.opY rfl rfl rfl rfl aK1b ?_
  refine OpE.val (W := NoB) (OpV.load_own (i := 1) rfl hB Tryz.isAgg9 rfl rfl rfl (fun h => h)) rfl ?_
  refine VO.opY rfl rfl rfl rfl aK1b ?_
  refine OpE.call rfl hB rfl Tryz.call116 rfl (SpecN.spec (kit_IsKey (by have := hs.part i; omega))) ?_
  rintro _ rfl
  refine VO.opY rfl rfl rfl rfl aK1b ?_
  refine OpE.val (W := NoB) (OpV.not rfl rfl) rfl ?_
  refine VO.val rfl rfl (OpV.pickF rfl rfl rfl rfl aK1b) ?_
  refine VO.ma rfl rfl rfl rfl ?_
  refine VO.nil ?_
  refine VC.cond rfl (fun aH2b => ?_) (fun aH2b => ?_)
  ·have aH2 := aH2b
   try simp only [qqT, qqF, qqN, qqM, qqL, qqE] at aH2
   refine VC.sr ?_
   refine VO.ma rfl rfl rfl rfl ?_
   refine VO.nil ?_
   refine VC.ret ?_
   exact Exists.intro _ (And.intro (RetN.one Tryz.results284 (ResN.v rfl)) (by first | rw [placeE_5a (by assumption)] | rw [placeE_5b (by assumption)]))
  ·have aH2 := aH2b
   try simp only [qqT, qqF, qqN, qqM, qqL, qqE] at aH2
   refine VC.seq ?_
   refine VC.draw (fun _ => NoB) hB (by kernel_rfl) ?_
   refine VA.take (i := 0) rfl (by kernel_rfl) (by kernel_rfl) (by kernel_rfl) rfl rfl (OpV.move (.inl rfl) rfl) ?_
   refine VA.take (i := 1) rfl (by kernel_rfl) (by kernel_rfl) (by kernel_rfl) rfl rfl (OpV.gtr rfl rfl rfl) ?_
   refine VA.take (i := 2) rfl (by kernel_rfl) (by kernel_rfl) (by kernel_rfl) rfl rfl (OpV.move (.inl rfl) rfl) ?_
   refine VA.split (t := 25) rfl (fun aK3b => ?_) (fun aK3b => ?_)
   ·have aK3 := aK3b
    try simp only [qqT, qqF, qqN, qqM, qqL, qqE] at aK3
    refine VA.takeY (i := 3) rfl (by kernel_rfl) (by kernel_rfl) (by kernel_rfl) rfl rfl rfl rfl aK3b (OpV.fieldAddrO 0 rfl Tryz.underlying187 rfl rfl Tryz.sizeOf9 rfl) ?_
    refine VA.takeY (i := 4) rfl (by kernel_rfl) (by kernel_rfl) (by kernel_rfl) rfl rfl rfl rfl aK3b (OpV.load_own (i := 1) rfl hB Tryz.isAgg9 rfl rfl rfl Wi.not0) ?_
    refine VA.takeY (i := 5) rfl (by kernel_rfl) (by kernel_rfl) (by kernel_rfl) rfl rfl rfl rfl aK3b (OpV.fieldAddrO 3 rfl Tryz.underlying124 rfl rfl Tryz.sizeOf122 rfl) ?_
    refine VA.takeY (i := 6) rfl (by kernel_rfl) (by kernel_rfl) (by kernel_rfl) rfl rfl rfl rfl aK3b (OpV.load_own (i := 0) rfl hB Tryz.isAgg122 rfl rfl rfl Wi.not0) ?_
    refine VA.takeY (i := 7) rfl (by kernel_rfl) (by kernel_rfl) (by kernel_rfl) rfl rfl rfl rfl aK3b (OpV.move (.inl rfl) rfl) ?_
    refine VA.takeY (i := 8) rfl (by kernel_rfl) (by kernel_rfl) (by kernel_rfl) rfl rfl rfl rfl aK3b (OpV.sub rfl rfl rfl (by unfold fits; omega)) ?_
    refine VA.takeY (i := 9) rfl (by kernel_rfl) (by kernel_rfl) (by kernel_rfl) rfl rfl rfl rfl aK3b (OpV.indexAddr_E rfl Tryz.underlying122 Tryz.sizeOf187 rfl rfl (show ((i : Int) - 1) = ((i - 1 : Nat) : Int) by omega) (by omega)) ?_
    refine VA.takeY (i := 10) rfl (by kernel_rfl) (by kernel_rfl) (by kernel_rfl) rfl rfl rfl rfl aK3b (OpV.fieldAddr_atO 0 rfl Tryz.underlying187 rfl rfl Tryz.sizeOf9 rfl rfl) ?_
    refine VA.takeY (i := 11) rfl (by kernel_rfl) (by kernel_rfl) (by kernel_rfl) rfl rfl rfl rfl aK3b (OpV.load_at rfl hB OutW.wi0 Tryz.isAgg9 rfl rfl) ?_
    refine VA.takeY (i := 12) rfl (by kernel_rfl) (by kernel_rfl) (by kernel_rfl) rfl rfl rfl rfl aK3b (OpV.sleq rfl rfl rfl) ?_
    refine VA.take (i := 13) rfl (by kernel_rfl) (by kernel_rfl) (by kernel_rfl) rfl rfl (OpV.pickT rfl rfl rfl rfl aK3b) ?_
    refine VA.take (i := 14) rfl (by kernel_rfl) (by kernel_rfl) (by kernel_rfl) rfl rfl (OpV.move (.inr rfl) rfl) ?_
    refine VA.done (by kernel_rfl) ?_
    refine VC.cond rfl (fun aH4b => ?_) (fun aH4b => ?_)
    ·have aH4 := aH4b
     try simp only [qqT, qqF, qqN, qqM, qqL, qqE] at aH4
     refine VC.sr ?_
     refine VO.ma rfl rfl rfl rfl ?_
     refine VO.nil ?_
     refine VC.ret ?_
     exact Exists.intro _ (And.intro (RetN.one Tryz.results284 (ResN.v rfl)) (by rw [placeE_7 (by assumption) (by assumption) (by omega) (by assumption)]))
    ·have aH4 := aH4b
     try simp only [qqT, qqF, qqN, qqM, qqL, qqE] at aH4
     refine VC.sr ?_
     refine VO.val rfl rfl (OpV.fieldAddrO 2 rfl Tryz.underlying187 rfl rfl Tryz.sizeOf3 rfl) ?_
     refine VO.val rfl rfl (OpV.load_own (i := 1) rfl hB Tryz.isAgg3 rfl rfl rfl (fun h => h)) ?_
     refine VO.val rfl rfl (OpV.fieldAddrO 1 rfl Tryz.underlying124 rfl rfl Tryz.sizeOf3 rfl) ?_
     refine VO.val rfl rfl (OpV.load_own (i := 0) rfl hB Tryz.isAgg3 rfl rfl rfl (fun h => h)) ?_
     refine VO.op rfl (OpE.call rfl hB rfl Tryz.call119 rfl (SpecN.spec (kit_Outside)) ?_)
     rintro _ rfl
     refine VO.mv rfl rfl rfl rfl ?_
     refine VO.opG rfl rfl rfl rfl (fun aK5b => ?_) (fun aK5b => ?_)
     ·replace aK5b : _ = false := aK5b
      have aK5 := aK5b
      try simp only [qqT, qqF, qqN, qqM, qqL, qqE] at aK5
      refine OpE.val (W := NoB) (OpV.fieldAddrO 3 rfl Tryz.underlying187 rfl rfl Tryz.sizeOf3 rfl) rfl ?_
      refine VO.opY rfl rfl rfl rfl aK5b ?_
      refine OpE.val (W := NoB) (OpV.load_own (i := 1) rfl hB Tryz.isAgg3 rfl rfl rfl (fun h => h)) rfl ?_
      refine VO.opY rfl rfl rfl rfl aK5b ?_
      refine OpE.val (W := NoB) (OpV.fieldAddrO 2 rfl Tryz.underlying124 rfl rfl Tryz.sizeOf3 rfl) rfl ?_
      refine VO.opY rfl rfl rfl rfl aK5b ?_
      refine OpE.val (W := NoB) (OpV.load_own (i := 0) rfl hB Tryz.isAgg3 rfl rfl rfl (fun h => h)) rfl ?_
      refine VO.opY rfl rfl rfl rfl aK5b ?_
      refine OpE.call rfl hB rfl Tryz.call119 rfl (SpecN.spec (kit_Outside)) ?_
      rintro _ rfl
      refine VO.val rfl rfl (OpV.pickF rfl rfl rfl rfl aK5b) ?_
      refine VO.mv rfl rfl rfl rfl ?_
      refine VO.opG rfl rfl rfl rfl (fun aK6b => ?_) (fun aK6b => ?_)
      ·replace aK6b : _ = false := aK6b
       have aK6 := aK6b
       try simp only [qqT, qqF, qqN, qqM, qqL, qqE] at aK6
       refine OpE.val (W := NoB) (OpV.fieldAddrO 4 rfl Tryz.underlying187 rfl rfl Tryz.sizeOf3 rfl) rfl ?_
       refine VO.opY rfl rfl rfl rfl aK6b ?_
       refine OpE.val (W := NoB) (OpV.load_own (i := 1) rfl hB Tryz.isAgg3 rfl rfl rfl (fun h => h)) rfl ?_
       refine VO.opY rfl rfl rfl rfl aK6b ?_
       refine OpE.call rfl hB rfl Tryz.call119 rfl (SpecN.spec (kit_Outside)) ?_
       rintro _ rfl
       refine VO.val rfl rfl (OpV.pickF rfl rfl rfl rfl aK6b) ?_
       refine VO.ma rfl rfl rfl rfl ?_
       refine VO.nil ?_
       refine VC.cond rfl (fun aH7b => ?_) (fun aH7b => ?_)
       ·have aH7 := aH7b
        try simp only [qqT, qqF, qqN, qqM, qqL, qqE] at aH7
        refine VC.sr ?_
        refine VO.ma rfl rfl rfl rfl ?_
        refine VO.nil ?_
        refine VC.ret ?_
        exact Exists.intro _ (And.intro (RetN.one Tryz.results284 (ResN.v rfl)) (by first | rw [placeE_1 (by assumption) (by assumption) (by first | (left; omega) | (right; assumption)) (by first | exact or3a (by assumption) | exact or3b (by assumption) | exact or3c (by assumption))]))
       ·have aH7 := aH7b
        try simp only [qqT, qqF, qqN, qqM, qqL, qqE] at aH7
        refine VC.skip ?_
        refine VC.sr ?_
        refine VO.ma rfl rfl rfl rfl ?_
        refine VO.nil ?_
        refine VC.ret ?_
        exact Exists.intro _ (And.intro (RetN.one Tryz.results284 (ResN.v rfl)) (by rw [placeE_0 (by assumption) (by assumption) (by first | (left; omega) | (right; assumption)) (or3f (by assumption) (by assumption) (by assumption))]))
      ·replace aK6b : _ = true := aK6b
       have aK6 := aK6b
       try simp only [qqT, qqF, qqN, qqM, qqL, qqE] at aK6
       refine VO.opX rfl rfl rfl rfl aK6b ?_
       refine VO.opX rfl rfl rfl rfl aK6b ?_
       refine VO.val rfl rfl (OpV.pickT rfl rfl rfl rfl aK6b) ?_
       refine VO.ma rfl rfl rfl rfl ?_
       refine VO.nil ?_
       refine VC.condT rfl rfl ?_
       refine VC.sr ?_
       refine VO.ma rfl rfl rfl rfl ?_
       refine VO.nil ?_
       refine VC.ret ?_
       exact Exists.intro _ (And.intro (RetN.one Tryz.results284 (ResN.v rfl)) (by first | rw [placeE_1 (by assumption) (by assumption) (by first | (left; omega) | (right; assumption)) (by first | exact or3a (by assumption) | exact or3b (by assumption) | exact or3c (by assumption))]))
     ·replace aK5b : _ = true := aK5b
      have aK5 := aK5b
      try simp only [qqT, qqF, qqN, qqM, qqL, qqE] at aK5
      refine VO.opX rfl rfl rfl rfl aK5b ?_
      refine VO.opX rfl rfl rfl rfl aK5b ?_
      refine VO.opX rfl rfl rfl rfl aK5b ?_
      refine VO.opX rfl rfl rfl rfl aK5b ?_
      refine VO.val rfl rfl (OpV.pickT rfl rfl rfl rfl aK5b) ?_
      refine VO.mv rfl rfl rfl rfl ?_
      refine VO.opX rfl rfl rfl rfl rfl ?_
      refine VO.opX rfl rfl rfl rfl rfl ?_
      refine VO.opX rfl rfl rfl rfl rfl ?_
      refine VO.val rfl rfl (OpV.pickT rfl rfl rfl rfl rfl) ?_
      refine VO.ma rfl rfl rfl rfl ?_
      refine VO.nil ?_
      refine VC.condT rfl rfl ?_
      refine VC.sr ?_
      refine VO.ma rfl rfl rfl rfl ?_
      refine VO.nil ?_
      refine VC.ret ?_
      exact Exists.intro _ (And.intro (RetN.one Tryz.results284 (ResN.v rfl)) (by first | rw [placeE_1 (by assumption) (by assumption) (by first | (left; omega) | (right; assumption)) (by first | exact or3a (by assumption) | exact or3b (by assumption) | exact or3c (by assumption))]))
   ·have aK3 := aK3b
    try simp only [qqT, qqF, qqN, qqM, qqL, qqE] at aK3
    refine VA.takeX (i := 3) rfl (by kernel_rfl) (by kernel_rfl) (by kernel_rfl) rfl rfl rfl rfl aK3b ?_
    refine VA.takeX (i := 4) rfl (by kernel_rfl) (by kernel_rfl) (by kernel_rfl) rfl rfl rfl rfl aK3b ?_
    refine VA.takeX (i := 5) rfl (by kernel_rfl) (by kernel_rfl) (by kernel_rfl) rfl rfl rfl rfl aK3b ?_
    refine VA.takeX (i := 6) rfl (by kernel_rfl) (by kernel_rfl) (by kernel_rfl) rfl rfl rfl rfl aK3b ?_
    refine VA.takeX (i := 7) rfl (by kernel_rfl) (by kernel_rfl) (by kernel_rfl) rfl rfl rfl rfl aK3b ?_
    refine VA.takeX (i := 8) rfl (by kernel_rfl) (by kernel_rfl) (by kernel_rfl) rfl rfl rfl rfl aK3b ?_
    refine VA.takeX (i := 9) rfl (by kernel_rfl) (by kernel_rfl) (by kernel_rfl) rfl rfl rfl rfl aK3b ?_
    refine VA.takeX (i := 10) rfl (by kernel_rfl) (by kernel_rfl) (by kernel_rfl) rfl rfl rfl rfl aK3b ?_
    refine VA.takeX (i := 11) rfl (by kernel_rfl) (by kernel_rfl) (by kernel_rfl) rfl rfl rfl rfl aK3b ?_
    refine VA.takeX (i := 12) rfl (by kernel_rfl) (by kernel_rfl) (by kernel_rfl) rfl rfl rfl rfl aK3b ?_
    refine VA.take (i := 13) rfl (by kernel_rfl) (by kernel_rfl) (by kernel_rfl) rfl rfl (OpV.pickF rfl rfl rfl rfl aK3b) ?_
    refine VA.take (i := 14) rfl (by kernel_rfl) (by kernel_rfl) (by kernel_rfl) rfl rfl (OpV.move (.inr rfl) rfl) ?_
    refine VA.done (by kernel_rfl) ?_
    refine VC.condF rfl rfl ?_
    refine VC.sr ?_
    refine VO.val rfl rfl (OpV.fieldAddrO 2 rfl Tryz.underlying187 rfl rfl Tryz.sizeOf3 rfl) ?_
    refine VO.val rfl rfl (OpV.load_own (i := 1) rfl hB Tryz.isAgg3 rfl rfl rfl (fun h => h)) ?_
    refine VO.val rfl rfl (OpV.fieldAddrO 1 rfl Tryz.underlying124 rfl rfl Tryz.sizeOf3 rfl) ?_
    refine VO.val rfl rfl (OpV.load_own (i := 0) rfl hB Tryz.isAgg3 rfl rfl rfl (fun h => h)) ?_
    refine VO.op rfl (OpE.call rfl hB rfl Tryz.call119 rfl (SpecN.spec (kit_Outside)) ?_)
    rintro _ rfl
    refine VO.mv rfl rfl rfl rfl ?_
    refine VO.opG rfl rfl rfl rfl (fun aK8b => ?_) (fun aK8b => ?_)
    ·replace aK8b : _ = false := aK8b
     have aK8 := aK8b
     try simp only [qqT, qqF, qqN, qqM, qqL, qqE] at aK8
     refine OpE.val (W := NoB) (OpV.fieldAddrO 3 rfl Tryz.underlying187 rfl rfl Tryz.sizeOf3 rfl) rfl ?_
     refine VO.opY rfl rfl rfl rfl aK8b ?_
     refine OpE.val (W := NoB) (OpV.load_own (i := 1) rfl hB Tryz.isAgg3 rfl rfl rfl (fun h => h)) rfl ?_
     refine VO.opY rfl rfl rfl rfl aK8b ?_
     refine OpE.val (W := NoB) (OpV.fieldAddrO 2 rfl Tryz.underlying124 rfl rfl Tryz.sizeOf3 rfl) rfl ?_
     refine VO.opY rfl rfl rfl rfl aK8b ?_
     refine OpE.val (W := NoB) (OpV.load_own (i := 0) rfl hB Tryz.isAgg3 rfl rfl rfl (fun h => h)) rfl ?_
     refine VO.opY rfl rfl rfl rfl aK8b ?_
     refine OpE.call rfl hB rfl Tryz.call119 rfl (SpecN.spec (kit_Outside)) ?_
     rintro _ rfl
     refine VO.val rfl rfl (OpV.pickF rfl rfl rfl rfl aK8b) ?_
     refine VO.mv rfl rfl rfl rfl ?_
     refine VO.opG rfl rfl rfl rfl (fun aK9b => ?_) (fun aK9b => ?_)
     ·replace aK9b : _ = false := aK9b
      have aK9 := aK9b
      try simp only [qqT, qqF, qqN, qqM, qqL, qqE] at aK9
      refine OpE.val (W := NoB) (OpV.fieldAddrO 4 rfl Tryz.underlying187 rfl rfl Tryz.sizeOf3 rfl) rfl ?_
      refine VO.opY rfl rfl rfl rfl aK9b ?_
      refine OpE.val (W := NoB) (OpV.load_own (i := 1) rfl hB Tryz.isAgg3 rfl rfl rfl (fun h => h)) rfl ?_
      refine VO.opY rfl rfl rfl rfl aK9b ?_
      refine OpE.call rfl hB rfl Tryz.call119 rfl (SpecN.spec (kit_Outside)) ?_
      rintro _ rfl
      refine VO.val rfl rfl (OpV.pickF rfl rfl rfl rfl aK9b) ?_
      refine VO.ma rfl rfl rfl rfl ?_
      refine VO.nil ?_
      refine VC.cond rfl (fun aH10b => ?_) (fun aH10b => ?_)
      ·have aH10 := aH10b
       try simp only [qqT, qqF, qqN, qqM, qqL, qqE] at aH10
       refine VC.sr ?_
       refine VO.ma rfl rfl rfl rfl ?_
       refine VO.nil ?_
       refine VC.ret ?_
       exact Exists.intro _ (And.intro (RetN.one Tryz.results284 (ResN.v rfl)) (by first | rw [placeE_1 (by assumption) (by assumption) (by first | (left; omega) | (right; assumption)) (by first | exact or3a (by assumption) | exact or3b (by assumption) | exact or3c (by assumption))]))
      ·have aH10 := aH10b
       try simp only [qqT, qqF, qqN, qqM, qqL, qqE] at aH10
       refine VC.skip ?_
       refine VC.sr ?_
       refine VO.ma rfl rfl rfl rfl ?_
       refine VO.nil ?_
       refine VC.ret ?_
       exact Exists.intro _ (And.intro (RetN.one Tryz.results284 (ResN.v rfl)) (by rw [placeE_0 (by assumption) (by assumption) (by first | (left; omega) | (right; assumption)) (or3f (by assumption) (by assumption) (by assumption))]))
     ·replace aK9b : _ = true := aK9b
      have aK9 := aK9b
      try simp only [qqT, qqF, qqN, qqM, qqL, qqE] at aK9
      refine VO.opX rfl rfl rfl rfl aK9b ?_
      refine VO.opX rfl rfl rfl rfl aK9b ?_
      refine VO.val rfl rfl (OpV.pickT rfl rfl rfl rfl aK9b) ?_
      refine VO.ma rfl rfl rfl rfl ?_
      refine VO.nil ?_
      refine VC.condT rfl rfl ?_
      refine VC.sr ?_
      refine VO.ma rfl rfl rfl rfl ?_
      refine VO.nil ?_
      refine VC.ret ?_
      exact Exists.intro _ (And.intro (RetN.one Tryz.results284 (ResN.v rfl)) (by first | rw [placeE_1 (by assumption) (by assumption) (by first | (left; omega) | (right; assumption)) (by first | exact or3a (by assumption) | exact or3b (by assumption) | exact or3c (by assumption))]))
    ·replace aK8b : _ = true := aK8b
     have aK8 := aK8b
     try simp only [qqT, qqF, qqN, qqM, qqL, qqE] at aK8
     refine VO.opX rfl rfl rfl rfl aK8b ?_
     refine VO.opX rfl rfl rfl rfl aK8b ?_
     refine VO.opX rfl rfl rfl rfl aK8b ?_
     refine VO.opX rfl rfl rfl rfl aK8b ?_
     refine VO.val rfl rfl (OpV.pickT rfl rfl rfl rfl aK8b) ?_
     refine VO.mv rfl rfl rfl rfl ?_
     refine VO.opX rfl rfl rfl rfl rfl ?_
     refine VO.opX rfl rfl rfl rfl rfl ?_
     refine VO.opX rfl rfl rfl rfl rfl ?_
     refine VO.val rfl rfl (OpV.pickT rfl rfl rfl rfl rfl) ?_
     refine VO.ma rfl rfl rfl rfl ?_
     refine VO.nil ?_
     refine VC.condT rfl rfl ?_
     refine VC.sr ?_
     refine VO.ma rfl rfl rfl rfl ?_
     refine VO.nil ?_
     refine VC.ret ?_
     exact Exists.intro _ (And.intro (RetN.one Tryz.results284 (ResN.v rfl)) (by first | rw [placeE_1 (by assumption) (by assumption) (by first | (left; omega) | (right; assumption)) (by first | exact or3a (by assumption) | exact or3b (by assumption) | exact or3c (by assumption))]))
 ·replace aK1b : _ = true := aK1b
  have aK1 := aK1b
  try simp only [qqT, qqF, qqN, qqM, qqL, qqE] at aK1
  refine VO.opX rfl rfl rfl rfl aK1b ?_
  refine VO.opX rfl rfl rfl rfl aK1b ?_
  refine VO.opX rfl rfl rfl rfl aK1b ?_
  refine VO.val rfl rfl (OpV.pickT rfl rfl rfl rfl aK1b) ?_
  refine VO.ma rfl rfl rfl rfl ?_
  refine VO.nil ?_
  refine VC.condT rfl rfl ?_
  refine VC.sr ?_
  refine VO.ma rfl rfl rfl rfl ?_
  refine VO.nil ?_
  refine VC.ret ?_
  exact Exists.intro _ (And.intro (RetN.one Tryz.results284 (ResN.v rfl)) (by first | rw [placeE_5a (by assumption)] | rw [placeE_5b (by assumption)]))
set_option maxRecDepth 100000 in
theorem panel_CheckProduct {p : ProdS} (hs : SmP p) :
  SpecN Tryz.prog 196 [avProd p] (fun y => y = avI (prodF p)) := by
 refine SpecN.of_VCN Tryz.func196 rfl Tryz.ntmps196 (Nle rfl) fun w A hB => ?_
 have hnew : True := trivial
 refine VC.seq ?_
 have hl := hs.len
 refine VC.region ?_
 refine VO.op rfl (OpE.box rfl hB rfl rfl rfl ?_)
 intro g1
 refine VO.ma rfl rfl rfl rfl ?_
 refine VO.nil ?_
 refine VC.seq ?_
 refine VC.block ?_
 refine VC.sr ?_
 refine VO.val rfl rfl (OpV.fieldAddrO 0 rfl Tryz.underlying124 rfl rfl Tryz.sizeOf9 rfl) ?_
 refine VO.val rfl rfl (OpV.load_own (i := 0) rfl hB Tryz.isAgg9 rfl rfl rfl (fun h => h)) ?_
 refine VO.op rfl (OpE.call rfl hB rfl Tryz.call116 rfl (SpecN.spec (kit_IsKey (by have := hs.key; omega))) ?_)
 rintro _ rfl
 refine VO.val rfl rfl (OpV.not rfl rfl) ?_
 refine VO.ma rfl rfl rfl rfl ?_
 refine VO.nil ?_
 refine VC.cond rfl (fun k0b => ?_) (fun k0b => ?_)
 ·have k0 := k0b
  try simp only [qqT, qqF, qqN, qqM, qqL, qqE] at k0
  refine VC.sr ?_
  refine VO.ma rfl rfl rfl rfl ?_
  refine VO.nil ?_
  refine VC.ret ?_
  exact Exists.intro _ (And.intro (RetN.one Tryz.results196 (ResN.v rfl)) (by rw [prodF_5 (by assumption)]))
 ·have k0 := k0b
  try simp only [qqT, qqF, qqN, qqM, qqL, qqE] at k0
  refine VC.sr ?_
  refine VO.val rfl rfl (OpV.fieldAddrO 1 rfl Tryz.underlying124 rfl rfl Tryz.sizeOf3 rfl) ?_
  refine VO.val rfl rfl (OpV.load_own (i := 0) rfl hB Tryz.isAgg3 rfl rfl rfl (fun h => h)) ?_
  refine VO.op rfl (OpE.call rfl hB rfl Tryz.call283 rfl (SpecN.spec (panel_isSize)) ?_)
  rintro _ rfl
  refine VO.val rfl rfl (OpV.not rfl rfl) ?_
  refine VO.mv rfl rfl rfl rfl ?_
  refine VO.opG rfl rfl rfl rfl (fun aK1b => ?_) (fun aK1b => ?_)
  ·replace aK1b : _ = false := aK1b
   have aK1 := aK1b
   try simp only [qqT, qqF, qqN, qqM, qqL, qqE] at aK1
   refine OpE.val (W := NoB) (OpV.fieldAddrO 2 rfl Tryz.underlying124 rfl rfl Tryz.sizeOf3 rfl) rfl ?_
   refine VO.opY rfl rfl rfl rfl aK1b ?_
   refine OpE.val (W := NoB) (OpV.load_own (i := 0) rfl hB Tryz.isAgg3 rfl rfl rfl (fun h => h)) rfl ?_
   refine VO.opY rfl rfl rfl rfl aK1b ?_
   refine OpE.call rfl hB rfl Tryz.call283 rfl (SpecN.spec (panel_isSize)) ?_
   rintro _ rfl
   refine VO.opY rfl rfl rfl rfl aK1b ?_
   refine OpE.val (W := NoB) (OpV.not rfl rfl) rfl ?_
   refine VO.val rfl rfl (OpV.pickF rfl rfl rfl rfl aK1b) ?_
   refine VO.ma rfl rfl rfl rfl ?_
   refine VO.nil ?_
   refine VC.cond rfl (fun k1b => ?_) (fun k1b => ?_)
   ·have k1 := k1b
    try simp only [qqT, qqF, qqN, qqM, qqL, qqE] at k1
    refine VC.sr ?_
    refine VO.ma rfl rfl rfl rfl ?_
    refine VO.nil ?_
    refine VC.ret ?_
    exact Exists.intro _ (And.intro (RetN.one Tryz.results196 (ResN.v rfl)) (by first | rw [prodF_1 k0 (or2a (by assumption))] | rw [prodF_1 k0 (or2b (by assumption))]))
   ·have k1 := k1b
    try simp only [qqT, qqF, qqN, qqM, qqL, qqE] at k1
    refine VC.sr ?_
    refine VO.val rfl rfl (OpV.fieldAddrO 3 rfl Tryz.underlying124 rfl rfl Tryz.sizeOf122 rfl) ?_
    refine VO.val rfl rfl (OpV.load_own (i := 0) rfl hB Tryz.isAgg122 rfl rfl rfl (fun h => h)) ?_
    refine VO.val rfl rfl (OpV.len_im rfl Tryz.underlying122 rfl) ?_
    refine VO.val rfl rfl (OpV.gtr rfl rfl rfl) ?_
    refine VO.ma rfl rfl rfl rfl ?_
    refine VO.nil ?_
    refine VC.cond rfl (fun k2b => ?_) (fun k2b => ?_)
    ·have k2 := k2b
     try simp only [qqT, qqF, qqN, qqM, qqL, qqE] at k2
     refine VC.sr ?_
     refine VO.ma rfl rfl rfl rfl ?_
     refine VO.nil ?_
     refine VC.ret ?_
     exact Exists.intro _ (And.intro (RetN.one Tryz.results196 (ResN.v rfl)) (by rw [prodF_2 k0 (or2f (by assumption) (by assumption)) (by omega)]))
    ·have k2 := k2b
     try simp only [qqT, qqF, qqN, qqM, qqL, qqE] at k2
     refine VC.skip ?_
     refine VC.seq ?_
     refine VC.sr ?_
     refine VO.val rfl rfl (OpV.fieldAddrO 3 rfl Tryz.underlying124 rfl rfl Tryz.sizeOf122 rfl) ?_
     refine VO.val rfl rfl (OpV.load_own (i := 0) rfl hB Tryz.isAgg122 rfl rfl rfl (fun h => h)) ?_
     refine VO.val rfl rfl (OpV.len_im rfl Tryz.underlying122 rfl) ?_
     refine VO.mv rfl rfl rfl rfl ?_
     refine VO.nil ?_
     refine VC.block ?_
     refine VC.loopK [(1, _), (28, _)] ⟨rfl, rfl, trivial⟩ ({q : Nat // q ≤ p.places.length ∧ ∀ j, j < q → placeE p j = 0}) (fun (iZ : {q : Nat // q ≤ p.places.length ∧ ∀ j, j < q → placeE p j = 0}) => match iZ with | ⟨q, hq, hn⟩ => [(29, avI (q : Int))]) (fun (iZ : {q : Nat // q ≤ p.places.length ∧ ∀ j, j < q → placeE p j = 0}) => match iZ with | ⟨q, hq, hn⟩ => [boxProd g1 p 124]) (fun (iZ : {q : Nat // q ≤ p.places.length ∧ ∀ j, j < q → placeE p j = 0}) => match iZ with | ⟨q, hq, hn⟩ => 0) (fun (iZ : {q : Nat // q ≤ p.places.length ∧ ∀ j, j < q → placeE p j = 0}) => match iZ with | ⟨q, hq, hn⟩ => p.places.length - q) ⟨0, Nat.zero_le _, fun j hj => absurd hj (Nat.not_lt_zero j)⟩ (Le.mk hB [0] ⟨rfl, rfl, rfl, trivial⟩ rfl rfl (Nat.le_refl _)) ?_
     rintro ⟨q, hq, hn⟩
     show VC _ _ _ _ ⟨[(29, avI (q : Int))] ++ [(1, _), (28, _)], [boxProd g1 p 124], 0⟩
     refine VC.sr ?_
     refine VO.val rfl rfl (OpV.lss rfl rfl rfl) ?_
     refine VO.nil ?_
     refine VC.seq ?_
     refine VC.cond rfl (fun aH2b => ?_) (fun aH2b => ?_)
     ·have aH2 := aH2b
      try simp only [qqT, qqF, qqN, qqM, qqL, qqE] at aH2
      refine VC.skip ?_
      refine VC.seq ?_
      refine VC.block ?_
      refine VC.sr ?_
      refine VO.mv rfl rfl rfl rfl ?_
      refine VO.ma rfl rfl rfl rfl ?_
      refine VO.nil ?_
      refine VC.sr ?_
      refine VO.val rfl rfl (OpV.loadK_own (i := 0) rfl hB Tryz.isAgg124 Tryz.sizeOf124 rfl rfl rfl (fun h => h)) ?_
      refine VO.mv rfl rfl rfl rfl ?_
      refine VO.op rfl (OpE.call rfl hB rfl Tryz.call284 rfl (SpecN.spec (panel_placementFault hs (by omega))) ?_)
      rintro _ rfl
      refine VO.ma rfl rfl rfl rfl ?_
      refine VO.nil ?_
      refine VC.sr ?_
      refine VO.mv rfl rfl rfl rfl ?_
      refine VO.val rfl rfl (OpV.neq rfl rfl rfl) ?_
      refine VO.nil ?_
      refine VC.cond rfl (fun k4b => ?_) (fun k4b => ?_)
      ·have k4 := k4b
       try simp only [qqT, qqF, qqN, qqM, qqL, qqE] at k4
       refine VC.sr ?_
       refine VO.mv rfl rfl rfl rfl ?_
       refine VO.ma rfl rfl rfl rfl ?_
       refine VO.nil ?_
       refine VC.ret ?_
       exact Exists.intro _ (And.intro (RetN.one Tryz.results196 (ResN.v rfl)) (by rw [prodF_at k0 (or2f (by assumption) (by assumption)) (by omega) (by omega) hn rfl k4]))
      ·have k4 := k4b
       try simp only [qqT, qqF, qqN, qqM, qqL, qqE] at k4
       refine VC.skip ?_
       refine VC.region ?_
       refine VO.val rfl rfl (OpV.add rfl rfl rfl (by unfold fits; omega)) ?_
       refine VO.mv rfl rfl rfl rfl ?_
       refine VO.nil ?_
       exact Exists.intro (⟨q + 1, by omega, lt_succ_cases hn ((by omega))⟩) (And.intro (Le.mk hB [0] ⟨rfl, rfl, rfl, trivial⟩ rfl rfl (Nat.le_refl _)) (by first | omega | (show _ < _; omega) | (simp only []; omega)))
     ·have aH2 := aH2b
      try simp only [qqT, qqF, qqN, qqM, qqL, qqE] at aH2
      refine VC.exit ?_
      refine VC.sr ?_
      refine VO.ma rfl rfl rfl rfl ?_
      refine VO.nil ?_
      refine VC.ret ?_
      exact Exists.intro _ (And.intro (RetN.one Tryz.results196 (ResN.v rfl)) (by rw [prodF_ok k0 (or2f (by assumption) (by assumption)) (by omega) (fun j hj => hn j (by omega))]))
  ·replace aK1b : _ = true := aK1b
   have aK1 := aK1b
   try simp only [qqT, qqF, qqN, qqM, qqL, qqE] at aK1
   refine VO.opX rfl rfl rfl rfl aK1b ?_
   refine VO.opX rfl rfl rfl rfl aK1b ?_
   refine VO.opX rfl rfl rfl rfl aK1b ?_
   refine VO.val rfl rfl (OpV.pickT rfl rfl rfl rfl aK1b) ?_
   refine VO.ma rfl rfl rfl rfl ?_
   refine VO.nil ?_
   refine VC.condT rfl rfl ?_
   refine VC.sr ?_
   refine VO.ma rfl rfl rfl rfl ?_
   refine VO.nil ?_
   refine VC.ret ?_
   exact Exists.intro _ (And.intro (RetN.one Tryz.results196 (ResN.v rfl)) (by first | rw [prodF_1 k0 (or2a (by assumption))] | rw [prodF_1 k0 (or2b (by assumption))]))
end Go.Proofs.YtaaokimiadfidaaGreatDoor
namespace Go.Proofs.YtaaokimiadfidaaGreatDoor
open Go.RowKit
set_option linter.unusedVariables false
set_option linter.unusedSimpArgs false
abbrev kvS : ByteArray → Value := fun k => Value.string k
abbrev eI : Int → AV := fun n => avI n
theorem flat_need (xs : List NeedS) : FlatA (rowL xs) := flat_rowL (fun x j hj => by
 match j, hj with
 | 0, _ => exact ⟨_, rfl⟩
 | 1, _ => exact ⟨_, rfl⟩) xs
theorem cnt_key_small {p : ProdS} (hs : SmP p) (q : Nat) : ∀ x ∈ cntP (p.places.take q), x.1.size ≤ maxLen := fun x hx => by
 have : x.1 ∈ (cntP (p.places.take q)).map (·.1) := List.mem_map.2 ⟨x, hx, rfl⟩
 obtain ⟨y, hy, e⟩ := cntP_mem.1 this
 obtain ⟨j, hj, rfl⟩ := List.getElem_of_mem hy
 rw [← e]
 have h1 := hs.part j
 simp only [List.length_take] at hj
 rw [List.getElem_take]
 rw [List.getD_eq_getElem?_getD, List.getElem?_eq_getElem (by omega)] at h1
 simp only [maxLen]
 exact Nat.le_trans h1 (by decide)
theorem needs_take {p : ProdS} {r : Nat} (h : r < (sKeys (cntP p.places)).length) : (needsL p).take (r + 1) = (needsL p).take r ++ [⟨(sKeys (cntP p.places)).getD r ByteArray.empty, mgetD (cntP p.places) ((sKeys (cntP p.places)).getD r ByteArray.empty) 0⟩] := by
 rw [take_snocD (by simpa [needsL] using h) default]
 congr 2
 simp [needsL, List.getD_eq_getElem?_getD, h]
set_option maxRecDepth 100000 in
set_option maxHeartbeats 4000000 in
theorem panel_Needs {p : ProdS} (hs : SmP p) :
  SpecN Tryz.prog 83 [avProd p] (fun y => y = .tup [avL (needsR p), avI (prodF p)]) := by
 refine SpecN.of_VCN Tryz.func83 rfl Tryz.ntmps83 (Nle rfl) fun w A hB => ?_
 have hnew : True := trivial
 refine VC.seq ?_
 have hl := hs.len
 refine VC.region ?_
 refine VO.op rfl (OpE.box rfl hB rfl rfl rfl ?_)
 intro g1
 refine VO.ma rfl rfl rfl rfl ?_
 refine VO.ma rfl rfl rfl rfl ?_
 refine VO.nil ?_
 refine VC.seq ?_
 refine VC.sr ?_
 refine VO.val rfl rfl (OpV.loadK_own (i := 0) rfl hB Tryz.isAgg124 Tryz.sizeOf124 rfl rfl rfl (fun h => h)) ?_
 refine VO.op rfl (OpE.call rfl hB rfl Tryz.call196 rfl (SpecN.spec (panel_CheckProduct hs)) ?_)
 rintro _ rfl
 refine VO.ma rfl rfl rfl rfl ?_
 refine VO.nil ?_
 refine VC.sr ?_
 refine VO.mv rfl rfl rfl rfl ?_
 refine VO.val rfl rfl (OpV.neq rfl rfl rfl) ?_
 refine VO.nil ?_
 refine VC.cond rfl (fun h0b => ?_) (fun h0b => ?_)
 ·have h0 := h0b
  try simp only [qqT, qqF, qqN, qqM, qqL, qqE] at h0
  refine VC.sr ?_
  refine VO.mv rfl rfl rfl rfl ?_
  refine VO.ma rfl rfl rfl rfl ?_
  refine VO.ma rfl rfl rfl rfl ?_
  refine VO.nil ?_
  refine VC.ret ?_
  exact Exists.intro _ (And.intro (RetN.two Tryz.results83 (ResN.nilE rfl) (ResN.v rfl)) (by first | (rw [needsR, if_neg h0]; rfl) | (rw [needsR, if_pos h00, h00])))
 ·have h0 := h0b
  try simp only [qqT, qqF, qqN, qqM, qqL, qqE] at h0
  have h00 : prodF p = 0 := by omega
  have hok := prodOk h00
  have hlen := hok.len
  refine VC.skip ?_
  refine VC.sr ?_
  refine VO.op rfl (OpE.makeMap (kvS) (eI) rfl hB rfl ?_)
  intro g16
  refine VO.ma rfl rfl rfl rfl ?_
  refine VO.nil ?_
  refine VC.seq ?_
  refine VC.sr ?_
  refine VO.val rfl rfl (OpV.fieldAddrO 3 rfl Tryz.underlying124 rfl rfl Tryz.sizeOf122 rfl) ?_
  refine VO.val rfl rfl (OpV.load_own (i := 0) rfl hB Tryz.isAgg122 rfl rfl rfl (fun h => h)) ?_
  refine VO.val rfl rfl (OpV.len_im rfl Tryz.underlying122 rfl) ?_
  refine VO.mv rfl rfl rfl rfl ?_
  refine VO.nil ?_
  refine VC.block ?_
  refine VC.loopK [(5, _), (18, _), (19, _)] ⟨rfl, rfl, rfl, trivial⟩ ({q : Nat // q ≤ p.places.length}) (fun (iZ : {q : Nat // q ≤ p.places.length}) => match iZ with | ⟨q, hq⟩ => [(20, avI (q : Int))]) (fun (iZ : {q : Nat // q ≤ p.places.length}) => match iZ with | ⟨q, hq⟩ => [boxProd g1 p 124, mapE kvS g16 eI (cntP (p.places.take q))]) (fun (iZ : {q : Nat // q ≤ p.places.length}) => match iZ with | ⟨q, hq⟩ => 0) (fun (iZ : {q : Nat // q ≤ p.places.length}) => match iZ with | ⟨q, hq⟩ => p.places.length - q) ⟨0, Nat.zero_le _⟩ (Le.mk hB [0, 1] ⟨rfl, rfl, rfl, rfl, trivial⟩ rfl rfl (Nat.le_refl _)) ?_
  rintro ⟨q, hq⟩
  show VC _ _ _ _ ⟨[(20, avI (q : Int))] ++ [(5, _), (18, _), (19, _)], [boxProd g1 p 124, mapE kvS g16 eI (cntP (p.places.take q))], 0⟩
  refine VC.sr ?_
  refine VO.val rfl rfl (OpV.lss rfl rfl rfl) ?_
  refine VO.nil ?_
  refine VC.seq ?_
  refine VC.cond rfl (fun aH1b => ?_) (fun aH1b => ?_)
  ·have aH1 := aH1b
   try simp only [qqT, qqF, qqN, qqM, qqL, qqE] at aH1
   refine VC.skip ?_
   refine VC.seq ?_
   refine VC.block ?_
   refine VC.sr ?_
   refine VO.val rfl rfl (OpV.indexAddr_E rfl Tryz.underlying122 Tryz.sizeOf187 rfl rfl rfl (by omega)) ?_
   refine VO.val rfl rfl (OpV.loadK_at rfl hB OutW.no Tryz.isAgg187 Tryz.sizeOf187 rfl rfl) ?_
   refine VO.op rfl (OpE.alloc rfl hB rfl Tryz.zeroValue187 rfl ?_)
   intro g7
   refine VO.op rfl (OpE.store (i := 2) rfl hB rfl Tryz.sizeOf187 rfl rfl rfl rfl rfl rfl (Nle rfl) trivial ?_)
   refine VO.nil ?_
   refine VC.region ?_
   refine VO.mv rfl rfl rfl rfl ?_
   refine VO.val rfl rfl (OpV.fieldAddrO 1 rfl Tryz.underlying187 rfl rfl Tryz.sizeOf9 rfl) ?_
   refine VO.val rfl rfl (OpV.load_own (i := 2) rfl hB Tryz.isAgg9 rfl rfl rfl (fun h => h)) ?_
   refine VO.val rfl rfl (OpV.lookup_own (i := 1) rfl hB Tryz.underlying100 (KeyOk.str Tryz.underlying9) Tryz.zeroValue3 rfl (KeyE.v rfl) rfl (fun h => h)) ?_
   refine VO.le _ (Le.recast (t := 27) (y := avI (mgetD (cntP (p.places.take q)) (p.places.getD q default).part 0)) rfl (fun w Z u h => by unfold mgetD; revert h; cases mget (cntP (p.places.take q)) (p.places.getD q default).part <;> exact id)) ?_
   refine VO.val rfl rfl (OpV.add rfl rfl rfl (by have h := cntP_bd (p.places.take q) (p.places.getD q default).part; have h2 := List.length_take_le q p.places; unfold fits; omega)) ?_
   refine VO.op rfl (OpE.mapUpdate (i := 1) (xx := mgetD (cntP (p.places.take q)) (p.places.getD q default).part 0 + 1) rfl hB rfl Tryz.underlying100 (KeyOk.str Tryz.underlying9) rfl (KeyE.v rfl) rfl rfl trivial ?_)
   refine VO.nil ?_
   refine VC.region ?_
   refine VO.val rfl rfl (OpV.add rfl rfl rfl (by unfold fits; omega)) ?_
   refine VO.mv rfl rfl rfl rfl ?_
   refine VO.nil ?_
   exact Exists.intro (⟨q + 1, by omega⟩) (And.intro (Le.mk hB [0, 1] ⟨rfl, rfl, rfl, rfl, trivial⟩ rfl (by dsimp only; rw [cntP_take (by omega)]; rfl) (Nat.le_refl _)) (by first | omega | (show _ < _; omega) | (simp only []; omega)))
  ·have aH1 := aH1b
   try simp only [qqT, qqF, qqN, qqM, qqL, qqE] at aH1
   refine VC.exit ?_
   refine VC.seq ?_
   have hqe : p.places.take q = p.places := List.take_of_length_le (by omega)
   rw [hqe]
   have hcl := cntP_len p.places
   refine VC.region ?_
   refine VO.ma rfl rfl rfl rfl ?_
   refine VO.nil ?_
   refine VC.seq ?_
   refine VC.sr ?_
   refine VO.mv rfl rfl rfl rfl ?_
   refine VO.op rfl (OpE.callH rfl hB rfl Tryz.call197 rfl rfl (maps_Keys_int (some g16)) (List.Perm.refl _) (fun _ _ => trivial) ?_)
   rintro _ _ ⟨g31, rfl, rfl⟩
   refine VO.op rfl (OpE.callH (rest := [_]) rfl hB rfl Tryz.call108 rfl rfl (slices_Sorted_int (l := cntP p.places) (E := eI) (cntP_nodup _) (by have := cnt_key_small hs p.places.length; rwa [List.take_length] at this) (by omega)) (List.Perm.cons _ (List.Perm.swap _ _ _)) (fun _ _ => trivial) ?_)
   rintro _ _ ⟨u32, rfl, rfl⟩
   refine VO.le _ (Le.rowS (t := 32) (i := 0) hB hnew rfl rfl (sKeys_len _).symm) ?_
   obtain ⟨m, hm⟩ : ∃ m, cntP p.places = m := ⟨_, rfl⟩
   obtain ⟨ks, hks⟩ : ∃ ks, sKeys (cntP p.places) = ks := ⟨_, rfl⟩
   have hkl : ks.length = (cntP p.places).length := by rw [← hks, sKeys_len]
   rw [hks]
   refine VO.val rfl rfl (OpV.len_im rfl Tryz.underlying67 rfl) ?_
   refine VO.mv rfl rfl rfl rfl ?_
   refine VO.nil ?_
   refine VC.block ?_
   refine VC.le _ (Le.nilRow 2 96) ?_
   refine VC.loopK [(5, _), (32, _), (33, _)] ⟨rfl, rfl, rfl, trivial⟩ ({z : Value × Nat // z.2 ≤ ks.length}) (fun (iZ : {z : Value × Nat // z.2 ≤ ks.length}) => match iZ with | ⟨⟨u, r⟩, hr⟩ => [(8, .v u), (34, avI (r : Int))]) (fun (iZ : {z : Value × Nat // z.2 ≤ ks.length}) => match iZ with | ⟨⟨u, r⟩, hr⟩ => [mapE kvS g16 eI (cntP p.places), .row u r 2 (rowL ((needsL p).take r)) 96]) (fun (iZ : {z : Value × Nat // z.2 ≤ ks.length}) => match iZ with | ⟨⟨u, r⟩, hr⟩ => 0) (fun (iZ : {z : Value × Nat // z.2 ≤ ks.length}) => match iZ with | ⟨⟨u, r⟩, hr⟩ => ks.length - r) ⟨(.slice none 0 0, 0), Nat.zero_le _⟩ (Le.mk hB [1, 3] ⟨rfl, rfl, rfl, rfl, rfl, trivial⟩ rfl rfl (Nat.le_refl _)) ?_
   rintro ⟨⟨u, r⟩, hr⟩
   show VC _ _ _ _ ⟨[(8, .v u), (34, avI (r : Int))] ++ [(5, _), (32, _), (33, _)], [mapE kvS g16 eI (cntP p.places), .row u r 2 (rowL ((needsL p).take r)) 96], 0⟩
   simp only at hr
   refine VC.sr ?_
   refine VO.val rfl rfl (OpV.lss rfl rfl rfl) ?_
   refine VO.nil ?_
   refine VC.seq ?_
   refine VC.cond rfl (fun aH2b => ?_) (fun aH2b => ?_)
   ·have aH2 := aH2b
    try simp only [qqT, qqF, qqN, qqM, qqL, qqE] at aH2
    refine VC.skip ?_
    refine VC.seq ?_
    refine VC.block ?_
    refine VC.sr ?_
    refine VO.val rfl rfl (OpV.indexAddr_1 rfl Tryz.underlying67 Tryz.sizeOf9 rfl rfl rfl (by omega)) ?_
    refine VO.val rfl rfl (OpV.load_at rfl hB OutW.no Tryz.isAgg9 rfl rfl) ?_
    refine VO.ma rfl rfl rfl rfl ?_
    refine VO.nil ?_
    refine VC.region ?_
    refine VO.mv rfl rfl rfl rfl ?_
    refine VO.mv rfl rfl rfl rfl ?_
    refine VO.mv rfl rfl rfl rfl ?_
    refine VO.mv rfl rfl rfl rfl ?_
    refine VO.val rfl rfl (OpV.lookup_own (i := 0) rfl hB Tryz.underlying100 (KeyOk.str Tryz.underlying9) Tryz.zeroValue3 rfl (KeyE.v rfl) rfl (fun h => h)) ?_
    refine VO.le _ (Le.recast (t := 42) (y := avI (mgetD (cntP p.places) (ks.getD r ByteArray.empty) 0)) rfl (fun w Z u h => by unfold mgetD; revert h; cases mget (cntP p.places) (ks.getD r ByteArray.empty) <;> exact id)) ?_
    refine VO.val rfl rfl (OpV.build (pls := #[(0, 1), (1, 1)]) rfl Tryz.zeroValue96 Tryz.underlying96 (fun w => by kernel_rfl) rfl rfl) ?_
    refine VO.op rfl (OpE.buildSlice (zc := #[.string ⟨#[]⟩, .int .i64 0]) rfl hB rfl Tryz.underlying77 Tryz.sizeOf96 Tryz.zeroValue96 (by decide) (by decide) (by kernel_rfl) rfl rfl ?_)
    refine VO.op rfl (OpE.append1 (i := 1) rfl hB rfl Tryz.underlying77 (infoOf Tryz.t96 2 (by kernel_rfl) rfl rfl) rfl (by decide) (by decide) rfl rfl rfl rfl (rowL_snoc _ (⟨ks.getD r ByteArray.empty, mgetD (cntP p.places) (ks.getD r ByteArray.empty) 0⟩ : NeedS)) (by omega) (fun _ _ => trivial) ?_)
    intro u2
    refine VO.ma rfl rfl rfl rfl ?_
    refine VO.nil ?_
    refine VC.region ?_
    refine VO.val rfl rfl (OpV.add rfl rfl rfl (by unfold fits; omega)) ?_
    refine VO.mv rfl rfl rfl rfl ?_
    refine VO.nil ?_
    exact Exists.intro (⟨(u2, r + 1), by show r + 1 ≤ _; omega⟩) (And.intro (Le.mk hB [0, 1] ⟨rfl, rfl, rfl, rfl, rfl, trivial⟩ rfl (by dsimp only; rw [needs_take (by rw [hks]; omega), hks]; rfl) (Nat.le_refl _)) (by first | omega | (show _ < _; omega) | (simp only []; omega)))
   ·have aH2 := aH2b
    try simp only [qqT, qqF, qqN, qqM, qqL, qqE] at aH2
    refine VC.exit ?_
    refine VC.seq ?_
    have hre : r = (needsL p).length := by rw [needsL_len]; omega
    have hrt : (needsL p).take r = needsL p := List.take_of_length_le (by omega)
    rw [hrt]
    refine VC.region ?_
    refine VO.mv rfl rfl rfl rfl ?_
    refine VO.ma rfl rfl rfl rfl ?_
    refine VO.ma rfl rfl rfl rfl ?_
    refine VO.nil ?_
    refine VC.ret ?_
    exact Exists.intro _ (And.intro (RetN.two Tryz.results83 (ResN.rowT (i := 1) (xs := needsL p) rfl rfl hre (flat_need _)) (ResN.v rfl)) (by first | (rw [needsR, if_neg h0]; rfl) | (rw [needsR, if_pos h00, h00])))
end Go.Proofs.YtaaokimiadfidaaGreatDoor
namespace Go.Proofs.YtaaokimiadfidaaGreatDoor
open Go.RowKit
set_option linter.unusedVariables false
set_option linter.unusedSimpArgs false

def Inp (w : World) (a : Option Addr) (L : List Int) : Prop :=
 L.length ≤ 9223372036854775807 ∧ ∀ i, i < L.length → ∃ b o, a = some ⟨b, o, none⟩ ∧ w.cell? ⟨b, o + i, none⟩ = some (.int .i64 (L.getD i 0))

theorem Inp.ofRow {w : World} {a : Option Addr} {len cap : Nat} {zs : List Int}
  (h : (a = none ∧ len = 0 ∧ cap = 0 ∧ zs = []) ∨
   ∃ x, a = some x ∧ len ≤ cap ∧ cap ≤ maxLen ∧ zs.length = cap ∧ (∀ i, i < zs.length → w.cell? (x.add i) = some (.int .i64 (zs.getD i 0))) ∧ ∀ n ∈ zs, (Lit.int .i64 n).wf = true) :
  ∃ L : List Int, L.length = len ∧ Inp w a L := by
 rcases h with ⟨rfl, rfl, rfl, rfl⟩ | ⟨x, rfl, h1, h2, h3, h4, h5⟩
 ·exact ⟨[], rfl, by simp, by simp⟩
 ·unfold maxLen at h2
  refine ⟨zs.take len, by simp; omega, by simp; omega, fun i hi => ?_⟩
  have hi' : i < len ∧ i < zs.length := by simp at hi; omega
  obtain ⟨b, o, s⟩ := x
  have h0 := h4 0 (by omega)
  have hs : s = none := by
   cases s with
   | none => rfl
   | some s =>
    simp only [Addr.add, if_true, World.cell?] at h0
    split at h0 <;> simp at h0
  subst hs
  have hadd : (⟨b, o, none⟩ : Addr).add i = ⟨b, o + i, none⟩ := by unfold Addr.add; split <;> simp_all
  have := h4 i hi'.2
  rw [hadd] at this
  exact ⟨b, o, rfl, by rw [this]; simp [hi'.1, hi'.2]⟩

def lawQ (t : Nat) (x : Value) (e : Exit) (s : St') : Prop := e = .ret ∧ look s.sl t = some (.v x)
section
variable {P : Program} {w : World} {A : Nat → Prop} {nt t : Nat} {x : Value} {c : Code} {s : St'}
theorem VC.rebase (h : ∀ a w1, R (B0 w A nt) s a w1 → ∃ (B1 : Bs) (s1 : St'), B1.nt = nt ∧ B1.w0 = w1 ∧ (∀ b, B1.S b → w.heap.size ≤ b) ∧ R B1 s1 a w1 ∧ VC P B1 c (lawQ t x) s1) : VC P (B0 w A nt) c (lawQ t x) s := fun a w1 hr => by
 obtain ⟨B1, s1, h1, h2, h3, h4, h5⟩ := h a w1 hr
 refine Code.wp_mono (fun e a' w' ⟨s2, ⟨k1, k2⟩, k3⟩ => ?_) (h5 a w1 h4)
 refine ⟨⟨[(t, .v x)], [], 0⟩, ⟨k1, by simp [look_put]⟩, fun t' y hy => ?_, k3.size.trans h1, k3.defs, fun p hp => by simp at hp, List.Pairwise.nil, ?_, fun p hp => by simp at hp, trivial⟩
 ·rw [look_put] at hy
  split at hy
  ·rename_i e; subst e; cases hy; exact (k3.slots _ _ k2).flat ⟨_, rfl⟩
  ·cases hy
 ·have c1 := hr.chg
  have c2 := k3.chg
  rw [h2] at c2
  exact (c1.any.trans c2).mono fun b hb hs => (Nat.not_lt.2 (h3 b hs) hb).elim
theorem VC.stream {a0 : Option Addr} {cap0 g tot i : Nat} {L : List Int} {sl : List (Nat × AV)} (hi : s.hp[i]? = some (.box g ⟨[.v (.slice a0 L.length cap0), .v (.int .i64 0)], 25, tot⟩)) (htot : tot = 2) (hin : Inp w a0 L) (hsl : LeL s.sl sl) (hf : ∀ p ∈ sl, ∃ v, p.2 = .v v)
  (h : ∀ w1, w.heap.size ≤ g → (B1 w1 (fun b => b ≠ g) nt (fun b => b = g) (fun b => b ≤ g) (TT g L)).Ok → VC P (B1 w1 (fun b => b ≠ g) nt (fun b => b = g) (fun b => b ≤ g) (TT g L)) c (lawQ t x) ⟨sl, [], 0⟩) : VC P (B0 w A nt) c (lawQ t x) s :=
 VC.rebase fun a w1 hr => by
  have hm := List.mem_of_getElem? hi
  obtain ⟨cc, k1, k2, k3, k4⟩ := hr.blocks _ hm
  have hnew : ¬ g < w.heap.size := hr.isNew (fun b h => h) hm rfl
  have hge : w.heap.size ≤ g := by omega
  have hcc : cc = #[.slice a0 L.length cap0, .int .i64 0] := by
   obtain ⟨u0, p0, q0⟩ := k4 0 (by simp)
   obtain ⟨u1, p1, q1⟩ := k4 1 (by simp)
   have e0 := q0.eq_v
   have e1 := q1.eq_v
   have hsz : cc.size = 2 := k2.trans htot
   apply Array.ext (by simpa using hsz)
   intro i hi hi'
   simp at hi'
   match i, hi' with
   | 0, _ => have := Array.getElem?_eq_some_iff.1 p0; simp; rw [this.2, e0]
   | 1, _ => have := Array.getElem?_eq_some_iff.1 p1; simp; rw [this.2, e1]
  subst hcc
  have hT : TT g L w1 0 := ⟨0, Nat.le_refl _, a0, cap0, k1, hin.1, fun i hi => by
   obtain ⟨b, o, e1, e2⟩ := hin.2 i hi
   have hb := World.block_lt_of_cell? w _ e2
   exact ⟨b, o, e1, Nat.lt_of_lt_of_le hb hge, hr.chg.cell e2 fun h => h⟩⟩
  refine ⟨_, _, rfl, rfl, fun b hb => by rw [hb]; exact hge, ?_, h w1 hge (TT.ok hT)⟩
  refine ⟨fun t' y hy => ?_, hr.size, hr.defs, fun p hp => by simp at hp, List.Pairwise.nil, Chg.refl _ _, fun p hp => by simp at hp, hT⟩
  have hs := hr.slots t' y (LeL.look hsl t' y hy)
  have : ∃ v, y = .v v := by
   have key : ∀ (l : List (Nat × AV)), (∀ p ∈ l, ∃ v, p.2 = .v v) → look l t' = some y → ∃ v, y = .v v := by
    intro l
    induction l with
    | nil => intro _ h; cases h
    | cons p r ih =>
     intro hp hl
     obtain ⟨k, z⟩ := p
     rw [look_put] at hl
     split at hl
     ·cases hl; exact hp (k, y) (by simp)
     ·exact ih (fun q hq => hp q (by simp [hq])) hl
   exact key sl hf hy
  exact hs.flat this
theorem law_calls {F : FuncId} {fn : Func} {a0 : Option Addr} {cap0 : Nat} {L : List Int} {body : Code} (hf : P.funcs[F]? = some fn) (hb : fn.body = some body) (hn : fn.ntmps = nt) (h1 : 1 ≤ nt) (hres : fn.results = #[.tmp t])
  (h : VC P (B0 w (fun _ => True) nt) body (lawQ t (.bool true)) ⟨slots0 0 [.v (.slice a0 L.length cap0)], [], 0⟩) : Calls P F #[.slice a0 L.length cap0] w fun e w' => e = .returned (.bool true) ∧ Chg NoB w w' := by
 subst hn
 refine calls_of_wp hf hb (Code.wp_mono (fun e a w' hq => ?_) (h _ w (R.start (us := #[.slice a0 L.length cap0]) (k := 0) rfl ⟨rfl, fun j hj => by simp at hj; subst hj; exact .v _⟩ (fun _ h => h.elim) trivial (by show fn.ntmps = 1 + (fn.ntmps - 1); omega))))
 obtain ⟨s, ⟨rfl, hq⟩, hr⟩ := hq
 refine ⟨hr.defs, .bool true, ?_, rfl, hr.chg⟩
 have hv := (hr.slots t _ hq).eq_v
 simp [results_eq, hres, resRun, hv]
end
theorem Le.boolT {B : Bs} {s : St'} {t : Nat} {b : Bool} (ht : look s.sl t = some (avB b)) (hb : b = true) : Le B s ⟨(t, avB true) :: s.sl, s.hp, s.k⟩ := Le.recast ht fun w Z u h => by subst hb; exact h
end Go.Proofs.YtaaokimiadfidaaGreatDoor
namespace Go.Proofs.YtaaokimiadfidaaGreatDoor
open Go.RowKit
set_option linter.unusedVariables false
set_option linter.unusedSimpArgs false
def panL : List PlaceS := [⟨⟨#[99]⟩, ⟨#[99, 97, 112]⟩, 0, 0, 0⟩]
def panP : ProdS := ⟨⟨#[112]⟩, 5, 5, panL⟩
theorem panP_sm : SmP panP := ⟨by decide, by decide, fun i => by
 match i with
 | 0 => decide
 | i + 1 => simp [panP, panL]; decide, fun i => by
 match i with
 | 0 => decide
 | i + 1 => simp [panP, panL]; decide⟩
theorem panP_ok : prodF panP = 0 := by decide +kernel
theorem panP_cnt : cntP panL = [(⟨#[99, 97, 112]⟩, 1)] := by decide +kernel
theorem panP_keys : sKeys [((⟨#[99, 97, 112]⟩ : ByteArray), (1 : Int))] = [⟨#[99, 97, 112]⟩] := by simp [sKeys, bytesOf]
theorem panP_needs : needsR panP = [⟨⟨#[99, 97, 112]⟩, 1⟩] := by
 rw [needsR, if_pos panP_ok, needsL]
 show List.map _ (sKeys (cntP panL)) = _
 rw [panP_cnt, panP_keys]
 simp [panP, panP_cnt, mgetD, mget]

end Go.Proofs.YtaaokimiadfidaaGreatDoor
namespace Go.Proofs.YtaaokimiadfidaaGreatDoor
open Go.RowKit
set_option linter.unusedVariables false
set_option linter.unusedSimpArgs false
theorem not_true_false {b : Bool} (h : (!b) = true) : b = false := by cases b <;> simp_all
theorem not_false_true {b : Bool} (h : (!b) = false) : b = true := by cases b <;> simp_all
end Go.Proofs.YtaaokimiadfidaaGreatDoor
namespace Go.Proofs.YtaaokimiadfidaaGreatDoor
open Go.RowKit
set_option linter.unusedVariables false
set_option linter.unusedSimpArgs false

abbrev ε : ByteArray := ⟨#[]⟩
def has (s : List ByteArray) (x : ByteArray) : Bool := s.any fun y => sEq x y
def setupE (s : List ByteArray) (i : Nat) : Int :=
 if sEq (s.getD i ByteArray.empty) ε = true then 0 else if keyF (s.getD i ByteArray.empty) = false then 5 else if has (s.take i) (s.getD i ByteArray.empty) = true then 6 else 0
def setupF (s : List ByteArray) : Int := if s.length = 0 then 8 else if 100 < s.length then 2 else firstE (setupE s) s.length
def partE (slots : Int) (l : List ByteArray) : Int := if slots < l.length then 12 else firstE (canE l) l.length
def partsF (slots : Int) (p : List (List ByteArray)) : Int := if outR slots 1 100 = true then 1 else if 200 < p.length then 2 else firstE (fun i => partE slots (p.getD i default)) p.length
def missF (s parts : List ByteArray) : List ByteArray := parts.filter fun x => !has s x
theorem setupF_none {s : List ByteArray} (h : s.length = 0) : setupF s = 8 := by rw [setupF, if_pos h]
theorem setupF_big {s : List ByteArray} (h : 100 < s.length) : setupF s = 2 := by rw [setupF, if_neg (by omega), if_pos h]
theorem setupF_at {s : List ByteArray} {e : Int} (h0 : 0 < s.length) (h : s.length ≤ 100) {q : Nat} (hq : q < s.length) (hn : ∀ j, j < q → setupE s j = 0) (he : setupE s q = e) (h1 : e ≠ 0) : setupF s = e := by
 rw [setupF, if_neg (by omega), if_neg (by omega), firstE_found hn (by rw [he]; exact h1) hq, he]
theorem setupF_ok {s : List ByteArray} (h0 : 0 < s.length) (h : s.length ≤ 100) (hn : ∀ j, j < s.length → setupE s j = 0) : setupF s = 0 := by
 rw [setupF, if_neg (by omega), if_neg (by omega), firstE_none hn]
theorem setupF_len {s : List ByteArray} (h : setupF s = 0) : 0 < s.length ∧ s.length ≤ 100 := by
 rw [setupF] at h
 split at h
 ·cases h
 ·split at h
  ·cases h
  ·omega
theorem setupF_zero {s : List ByteArray} (h : setupF s = 0) : ∀ j, j < s.length → setupE s j = 0 := by
 have hl := setupF_len h
 rw [setupF, if_neg (by omega), if_neg (by omega)] at h
 exact firstE_zero h
section
variable {s : List ByteArray} {i : Nat}
theorem setupE_e (h : sEq (s.getD i ByteArray.empty) ε = true) : setupE s i = 0 := by rw [setupE, if_pos h]
theorem setupE_5 (h : sEq (s.getD i ByteArray.empty) ε = false) (h2 : keyF (s.getD i ByteArray.empty) = false) : setupE s i = 5 := by rw [setupE, if_neg (by rw [h]; simp), if_pos h2]
theorem setupE_6 (h : sEq (s.getD i ByteArray.empty) ε = false) (h2 : keyF (s.getD i ByteArray.empty) = true) (h3 : has (s.take i) (s.getD i ByteArray.empty) = true) : setupE s i = 6 := by
 rw [setupE, if_neg (by rw [h]; simp), if_neg (by rw [h2]; simp), if_pos h3]
theorem setupE_0 (h : sEq (s.getD i ByteArray.empty) ε = false) (h2 : keyF (s.getD i ByteArray.empty) = true) (h3 : has (s.take i) (s.getD i ByteArray.empty) = false) : setupE s i = 0 := by
 rw [setupE, if_neg (by rw [h]; simp), if_neg (by rw [h2]; simp), if_neg (by rw [h3]; simp)]
end
section
variable {slots : Int} {p : List (List ByteArray)} {l : List ByteArray}
theorem partsF_1 (h : outR slots 1 100 = true) : partsF slots p = 1 := by rw [partsF, if_pos h]
theorem partsF_2 (h : outR slots 1 100 = false) (h2 : 200 < p.length) : partsF slots p = 2 := by rw [partsF, if_neg (by rw [h]; simp), if_pos h2]
theorem partsF_at (h : outR slots 1 100 = false) (h2 : p.length ≤ 200) {q : Nat} (hq : q < p.length) (hn : ∀ j, j < q → partE slots (p.getD j default) = 0) {e : Int} (he : partE slots (p.getD q default) = e) (h1 : e ≠ 0) : partsF slots p = e := by
 rw [partsF, if_neg (by rw [h]; simp), if_neg (by omega), firstE_found hn (by rw [he]; exact h1) hq, he]
theorem partsF_ok (h : outR slots 1 100 = false) (h2 : p.length ≤ 200) (hn : ∀ j, j < p.length → partE slots (p.getD j default) = 0) : partsF slots p = 0 := by
 rw [partsF, if_neg (by rw [h]; simp), if_neg (by omega), firstE_none hn]
theorem partsF_zero (h : partsF slots p = 0) : outR slots 1 100 = false ∧ p.length ≤ 200 ∧ ∀ j, j < p.length → partE slots (p.getD j default) = 0 := by
 rw [partsF] at h
 split at h
 ·cases h
 ·rename_i h1
  split at h
  ·cases h
  ·exact ⟨Bool.eq_false_iff.2 h1, by omega, firstE_zero h⟩
theorem partE_12 (h : slots < l.length) : partE slots l = 12 := by rw [partE, if_pos h]
theorem partE_at (h : ¬ slots < l.length) {q : Nat} (hq : q < l.length) (hn : ∀ j, j < q → canE l j = 0) {e : Int} (he : canE l q = e) (h1 : e ≠ 0) : partE slots l = e := by
 rw [partE, if_neg h, firstE_found hn (by rw [he]; exact h1) hq, he]
theorem partE_ok (h : ¬ slots < l.length) (hn : ∀ j, j < l.length → canE l j = 0) : partE slots l = 0 := by rw [partE, if_neg h, firstE_none hn]
theorem partE_zero (h : partE slots l = 0) : (l.length : Int) ≤ slots ∧ ∀ j, j < l.length → canE l j = 0 := by
 rw [partE] at h
 split at h
 ·cases h
 ·exact ⟨by omega, firstE_zero h⟩
end
theorem missF_yes {s p : List ByteArray} {q : Nat} (hq : q < p.length) (h : has s (p.getD q ByteArray.empty) = false) : missF s (p.take (q + 1)) = missF s (p.take q) ++ [p.getD q ByteArray.empty] := by
 rw [List.take_succ_eq_append_getElem hq]
 have e : p.getD q ByteArray.empty = p[q] := by simp [hq]
 rw [e] at h ⊢
 simp only [missF, List.filter_append, List.filter_cons, h, List.filter_nil, Bool.not_false, if_true]
theorem missF_no {s p : List ByteArray} {q : Nat} (hq : q < p.length) (h : has s (p.getD q ByteArray.empty) = true) : missF s (p.take (q + 1)) = missF s (p.take q) := by
 rw [List.take_succ_eq_append_getElem hq]
 have e : p.getD q ByteArray.empty = p[q] := by simp [hq]
 rw [e] at h
 simp only [missF, List.filter_append, List.filter_cons, h, List.filter_nil, Bool.not_true, if_false, List.append_nil, Bool.false_eq_true]
end Go.Proofs.YtaaokimiadfidaaGreatDoor
namespace Go.Proofs.YtaaokimiadfidaaGreatDoor
open Go.RowKit
set_option linter.unusedVariables false
set_option linter.unusedSimpArgs false

def needF (x : ByteArray) (later : List (List ByteArray)) : Int := if 0 ≤ fidx (fun l => has l x) later then fidx (fun l => has l x) later else later.length
theorem needF_ge (x : ByteArray) (later : List (List ByteArray)) : 0 ≤ needF x later ∧ needF x later ≤ later.length := by
 have := fidx_ge (fun l => has l x) later
 unfold needF
 split
 ·constructor
  ·assumption
  ·have h2 := this.2
   omega
 ·omega
def vic (s parts : List ByteArray) (later : List (List ByteArray)) : Nat → Int × Int
 | 0 => (-1, -1)
 | q + 1 => if has parts (s.getD q ByteArray.empty) = true then vic s parts later q
  else if (vic s parts later q).2 < needF (s.getD q ByteArray.empty) later ∨ (needF (s.getD q ByteArray.empty) later = (vic s parts later q).2 ∧ sLe (s.getD q ByteArray.empty) (s.getD (vic s parts later q).1.toNat ByteArray.empty) = false) then ((q : Int), needF (s.getD q ByteArray.empty) later)
  else vic s parts later q
section
variable {s parts : List ByteArray} {later : List (List ByteArray)}
theorem vic_has {q : Nat} (h : has parts (s.getD q ByteArray.empty) = true) : vic s parts later (q + 1) = vic s parts later q := by rw [vic, if_pos h]
theorem vic_new {q : Nat} (h : has parts (s.getD q ByteArray.empty) = false) (h2 : (vic s parts later q).2 < needF (s.getD q ByteArray.empty) later ∨ (needF (s.getD q ByteArray.empty) later = (vic s parts later q).2 ∧ sLe (s.getD q ByteArray.empty) (s.getD (vic s parts later q).1.toNat ByteArray.empty) = false)) :
  vic s parts later (q + 1) = ((q : Int), needF (s.getD q ByteArray.empty) later) := by rw [vic, if_neg (by rw [h]; simp), if_pos h2]
theorem vic_old {q : Nat} (h : has parts (s.getD q ByteArray.empty) = false) (h2 : ¬ ((vic s parts later q).2 < needF (s.getD q ByteArray.empty) later ∨ (needF (s.getD q ByteArray.empty) later = (vic s parts later q).2 ∧ sLe (s.getD q ByteArray.empty) (s.getD (vic s parts later q).1.toNat ByteArray.empty) = false))) :
  vic s parts later (q + 1) = vic s parts later q := by rw [vic, if_neg (by rw [h]; simp), if_neg h2]
theorem vic_in : ∀ q : Nat, (vic s parts later q = (-1, -1) ∧ ∀ j, j < q → has parts (s.getD j ByteArray.empty) = true) ∨
    (0 ≤ (vic s parts later q).1 ∧ (vic s parts later q).1 < q ∧ 0 ≤ (vic s parts later q).2 ∧ (vic s parts later q).2 ≤ later.length ∧ has parts (s.getD (vic s parts later q).1.toNat ByteArray.empty) = false)
  | 0 => .inl ⟨rfl, fun j hj => by omega⟩
  | q + 1 => by
    have hn := needF_ge (s.getD q ByteArray.empty) later
    cases hh : has parts (s.getD q ByteArray.empty) with
    | true =>
      rw [vic_has hh]
      rcases vic_in q with ⟨h1, h2⟩ | ⟨h1, h2, h3, h4, h5⟩
      · exact .inl ⟨h1, fun j hj => by
          by_cases e : j = q
          · rw [e]; exact hh
          · exact h2 j (by omega)⟩
      · exact .inr ⟨h1, by omega, h3, h4, h5⟩
    | false =>
      by_cases h2 : (vic s parts later q).2 < needF (s.getD q ByteArray.empty) later ∨ (needF (s.getD q ByteArray.empty) later = (vic s parts later q).2 ∧ sLe (s.getD q ByteArray.empty) (s.getD (vic s parts later q).1.toNat ByteArray.empty) = false)
      · rw [vic_new hh h2]
        exact .inr ⟨by simp, by simp; omega, hn.1, hn.2, by simpa using hh⟩
      · rw [vic_old hh h2]
        rcases vic_in q with ⟨h1, _⟩ | ⟨h1, h2, h3, h4, h5⟩
        · exact absurd (.inl (by rw [h1]; exact (by omega : (-1 : Int) < needF (s.getD q ByteArray.empty) later))) h2
        · exact .inr ⟨h1, by omega, h3, h4, h5⟩
end
theorem vic_tie {s parts : List ByteArray} {later : List (List ByteArray)} {q : Nat} {x : ByteArray} (h : needF x later = (vic s parts later q).2) : 0 ≤ (vic s parts later q).1 ∧ (vic s parts later q).1 < q := by
 have h9 := needF_ge x later
 rcases vic_in (s := s) (parts := parts) (later := later) q with ⟨h8, _⟩ | ⟨k1, k2, _⟩
 ·rw [h8] at h
  simp only at h
  omega
 ·exact ⟨k1, k2⟩
def slotF (s parts : List ByteArray) (later : List (List ByteArray)) : Int := if fidx (fun x => sEq ε x) s < 0 then (vic s parts later s.length).1 else fidx (fun x => sEq ε x) s
def nextL (parts : List ByteArray) (later : List (List ByteArray)) : List ByteArray → List ByteArray → List ByteArray
 | s, [] => s
 | s, x :: r => nextL parts later (s.set (slotF s parts later).toNat x) r
def nextF (s parts : List ByteArray) (later : List (List ByteArray)) : List ByteArray := nextL parts later s (missF s parts)
theorem nextL_snoc (parts : List ByteArray) (later : List (List ByteArray)) : ∀ (l s : List ByteArray) (x : ByteArray), nextL parts later s (l ++ [x]) = (nextL parts later s l).set (slotF (nextL parts later s l) parts later).toNat x
 | [], s, x => rfl
 | y :: l, s, x => nextL_snoc parts later l _ x
theorem nextL_len (parts : List ByteArray) (later : List (List ByteArray)) : ∀ (l s : List ByteArray), (nextL parts later s l).length = s.length
 | [], s => rfl
 | y :: l, s => by rw [nextL, nextL_len parts later l]; simp
theorem has_iff {s : List ByteArray} {x : ByteArray} : has s x = true ↔ x ∈ s := by
 unfold has
 rw [List.any_eq_true]
 exact ⟨fun ⟨y, h1, h2⟩ => by rw [sEq_eq.1 h2]; exact h1, fun h => ⟨x, h, sEq_refl x⟩⟩
theorem has_not {s : List ByteArray} {x : ByteArray} : has s x = false ↔ x ∉ s := by
 rw [← has_iff, Bool.not_eq_true]
theorem nodup_sub : ∀ {l m : List ByteArray}, l.Nodup → (∀ x ∈ l, x ∈ m) → l.length ≤ m.length
 | [], m, _, _ => Nat.zero_le _
 | x :: r, m, h, hs => by
  have hx := hs x (by simp)
  have := nodup_sub (l := r) (m := m.erase x) (List.nodup_cons.1 h).2 (fun y hy => (List.mem_erase_of_ne (fun e => by subst e; exact (List.nodup_cons.1 h).1 hy)).2 (hs y (by simp [hy])))
  rw [List.length_erase_of_mem hx] at this
  have : 0 < m.length := List.length_pos_of_mem hx
  simp; omega
structure Fits (s parts : List ByteArray) : Prop where
 once : ∀ i j, i < j → j < s.length → s.getD i ByteArray.empty = s.getD j ByteArray.empty → s.getD j ByteArray.empty = ε
 room : parts.length ≤ s.length
 keys : ∀ x ∈ parts, x ≠ ε
 pnd : parts.Nodup
theorem slotF_in {s parts : List ByteArray} {later : List (List ByteArray)} (h : Fits s parts) {x : ByteArray} (hx : x ∈ parts) (hs : x ∉ s) : 0 ≤ slotF s parts later ∧ slotF s parts later < s.length ∧ has parts (s.getD (slotF s parts later).toNat ByteArray.empty) = false := by
 unfold slotF
 have hge := fidx_ge (fun x => sEq ε x) s
 split
 ·rename_i h1
  have hne : ∀ y ∈ s, y ≠ ε := fun y hy e => by
   have : s.any (fun x => sEq ε x) = true := List.any_eq_true.2 ⟨y, hy, by rw [e]; exact sEq_refl _⟩
   rw [← fidx_any] at this
   have := of_decide_eq_true this
   omega
  rcases vic_in (s := s) (parts := parts) (later := later) s.length with ⟨_, h2⟩ | ⟨k1, k2, _, _, k5⟩
  ·exfalso
   have hnd : s.Nodup := by
    rw [List.Nodup, List.pairwise_iff_getElem]
    intro i j hi hj hij e
    have := h.once i j hij hj (by simp [hi, hj, e])
    exact hne _ (List.getElem_mem hj) (by simpa [hj] using this)
   have := nodup_sub (l := x :: s) (m := parts) (List.nodup_cons.2 ⟨hs, hnd⟩) (fun y hy => by
    rcases List.mem_cons.1 hy with rfl | hy
    ·exact hx
    ·obtain ⟨j, hj, rfl⟩ := List.mem_iff_getElem.1 hy
     have := h2 j hj
     rw [has_iff] at this
     simpa [hj] using this)
   have h7 := h.room
   rw [List.length_cons] at this
   omega
  ·exact ⟨k1, k2, k5⟩
 ·rename_i h1
  have h0 : 0 ≤ fidx (fun x => sEq ε x) s := by omega
  obtain ⟨k1, k2, _⟩ := fidx_at (d := ByteArray.empty) h0
  have k3 := (sEq_eq.1 k2).symm
  refine ⟨h0, by omega, ?_⟩
  rw [k3, has_not]
  exact fun hc => h.keys _ hc rfl
theorem Fits.set {s parts : List ByteArray} (h : Fits s parts) {x : ByteArray} (hs : x ∉ s) (i : Nat) : Fits (s.set i x) parts := by
 refine ⟨fun a b hab hb he => ?_, by rw [List.length_set]; exact h.room, h.keys, h.pnd⟩
 rw [List.length_set] at hb
 have hm : ∀ k, k < s.length → s.getD k ByteArray.empty ∈ s := fun k hk => by simp [hk]
 simp only [List.getD_eq_getElem?_getD, List.getElem?_set] at he ⊢
 have hal : a < s.length := by omega
 by_cases ea : i = a
 ·subst ea
  rw [if_pos rfl, if_pos (by omega), if_neg (by omega)] at he
  have : x ∈ s := by
   have := hm b hb
   rw [List.getD_eq_getElem?_getD] at this
   simp only [Option.getD_some] at he
   rw [he]; exact this
  exact absurd this hs
 ·by_cases eb : i = b
  ·subst eb
   rw [if_neg ea, if_pos rfl, if_pos (by omega)] at he
   have : x ∈ s := by
    have := hm a hal
    rw [List.getD_eq_getElem?_getD] at this
    simp only [Option.getD_some] at he
    rw [← he]; exact this
   exact absurd this hs
  ·rw [if_neg ea, if_neg eb] at he
   rw [if_neg eb]
   have := h.once a b hab hb (by rw [List.getD_eq_getElem?_getD, List.getD_eq_getElem?_getD]; exact he)
   rwa [List.getD_eq_getElem?_getD] at this
end Go.Proofs.YtaaokimiadfidaaGreatDoor
namespace Go.Proofs.YtaaokimiadfidaaGreatDoor
open Go.RowKit
set_option linter.unusedVariables false
set_option linter.unusedSimpArgs false

def SmS (s : List ByteArray) : Prop := s.length ≤ 1000000000 ∧ ∀ i, (s.getD i ByteArray.empty).size ≤ 1000000000
def SmSS (p : List (List ByteArray)) : Prop := p.length ≤ 1000000000 ∧ ∀ i, SmS (p.getD i default)
set_option maxRecDepth 100000 in
theorem setup_CheckSetup {s : List ByteArray} (hs : SmS s) :
  SpecN Tryz.prog 314 [avStrs s] (fun y => y = avI (setupF s)) := by
 have hl := hs.1
 refine SpecN.of_VCN Tryz.func314 rfl Tryz.ntmps314 (Nle rfl) fun w A hB => ?_
 have hnew : True := trivial
 refine VC.sr ?_
 refine VO.ma rfl rfl rfl rfl ?_
 refine VO.nil ?_
 refine VC.seq ?_
 refine VC.sr ?_
 refine VO.mv rfl rfl rfl rfl ?_
 refine VO.val rfl rfl (OpV.len_im rfl Tryz.underlying67 rfl) ?_
 refine VO.val rfl rfl (OpV.eql rfl rfl rfl) ?_
 refine VO.nil ?_
 refine VC.cond rfl (fun aH1b => ?_) (fun aH1b => ?_)
 ·have aH1 := aH1b
  try simp only [qqT, qqF, qqN, qqM, qqL, qqE] at aH1
  refine VC.sr ?_
  refine VO.ma rfl rfl rfl rfl ?_
  refine VO.nil ?_
  refine VC.ret ?_
  exact Exists.intro _ (And.intro (RetN.one Tryz.results314 (ResN.v rfl)) (by rw [setupF_none (by omega)]))
 ·have aH1 := aH1b
  try simp only [qqT, qqF, qqN, qqM, qqL, qqE] at aH1
  refine VC.skip ?_
  refine VC.seq ?_
  refine VC.sr ?_
  refine VO.mv rfl rfl rfl rfl ?_
  refine VO.val rfl rfl (OpV.len_im rfl Tryz.underlying67 rfl) ?_
  refine VO.val rfl rfl (OpV.gtr rfl rfl rfl) ?_
  refine VO.nil ?_
  refine VC.cond rfl (fun aH2b => ?_) (fun aH2b => ?_)
  ·have aH2 := aH2b
   try simp only [qqT, qqF, qqN, qqM, qqL, qqE] at aH2
   refine VC.sr ?_
   refine VO.ma rfl rfl rfl rfl ?_
   refine VO.nil ?_
   refine VC.ret ?_
   exact Exists.intro _ (And.intro (RetN.one Tryz.results314 (ResN.v rfl)) (by rw [setupF_big (by omega)]))
  ·have aH2 := aH2b
   try simp only [qqT, qqF, qqN, qqM, qqL, qqE] at aH2
   refine VC.skip ?_
   refine VC.seq ?_
   refine VC.sr ?_
   refine VO.mv rfl rfl rfl rfl ?_
   refine VO.val rfl rfl (OpV.len_im rfl Tryz.underlying67 rfl) ?_
   refine VO.mv rfl rfl rfl rfl ?_
   refine VO.nil ?_
   refine VC.block ?_
   refine VC.loopK [(0, _), (11, _), (12, _)] ⟨rfl, rfl, rfl, trivial⟩ ({q : Nat // q ≤ s.length ∧ ∀ j, j < q → setupE s j = 0}) (fun (iZ : {q : Nat // q ≤ s.length ∧ ∀ j, j < q → setupE s j = 0}) => match iZ with | ⟨q, hq, hn⟩ => [(13, avI (q : Int))]) (fun (iZ : {q : Nat // q ≤ s.length ∧ ∀ j, j < q → setupE s j = 0}) => match iZ with | ⟨q, hq, hn⟩ => []) (fun (iZ : {q : Nat // q ≤ s.length ∧ ∀ j, j < q → setupE s j = 0}) => match iZ with | ⟨q, hq, hn⟩ => 0) (fun (iZ : {q : Nat // q ≤ s.length ∧ ∀ j, j < q → setupE s j = 0}) => match iZ with | ⟨q, hq, hn⟩ => s.length - q) ⟨0, Nat.zero_le _, fun j hj => absurd hj (Nat.not_lt_zero j)⟩ (Le.mk hB [] ⟨rfl, rfl, rfl, rfl, trivial⟩ rfl rfl (Nat.le_refl _)) ?_
   rintro ⟨q, hq, hn⟩
   show VC _ _ _ _ ⟨[(13, avI (q : Int))] ++ [(0, _), (11, _), (12, _)], [], 0⟩
   refine VC.sr ?_
   refine VO.val rfl rfl (OpV.lss rfl rfl rfl) ?_
   refine VO.nil ?_
   refine VC.seq ?_
   refine VC.cond rfl (fun aH3b => ?_) (fun aH3b => ?_)
   ·have aH3 := aH3b
    try simp only [qqT, qqF, qqN, qqM, qqL, qqE] at aH3
    refine VC.skip ?_
    refine VC.seq ?_
    refine VC.block ?_
    refine VC.sr ?_
    refine VO.mv rfl rfl rfl rfl ?_
    refine VO.val rfl rfl (OpV.indexAddr_1 rfl Tryz.underlying67 Tryz.sizeOf9 rfl rfl rfl (by omega)) ?_
    refine VO.val rfl rfl (OpV.load_at rfl hB OutW.no Tryz.isAgg9 rfl rfl) ?_
    refine VO.ma rfl rfl rfl rfl ?_
    refine VO.ma rfl rfl rfl rfl ?_
    refine VO.nil ?_
    refine VC.block ?_
    refine VC.sr ?_
    refine VO.mv rfl rfl rfl rfl ?_
    refine VO.val rfl rfl (OpV.seql rfl rfl rfl) ?_
    refine VO.ma rfl rfl rfl rfl ?_
    refine VO.nil ?_
    refine VC.cond rfl (fun h3b => ?_) (fun h3b => ?_)
    ·have h3 := h3b
     try simp only [qqT, qqF, qqN, qqM, qqL, qqE] at h3
     refine VC.skip ?_
     refine VC.region ?_
     refine VO.val rfl rfl (OpV.add rfl rfl rfl (by unfold fits; omega)) ?_
     refine VO.mv rfl rfl rfl rfl ?_
     refine VO.nil ?_
     exact Exists.intro (⟨q + 1, by omega, lt_succ_cases hn (setupE_e h3b)⟩) (And.intro (Le.mk hB [] ⟨rfl, rfl, rfl, rfl, trivial⟩ rfl rfl (Nat.le_refl _)) (by first | omega | (show _ < _; omega) | (simp only []; omega)))
    ·have h3 := h3b
     try simp only [qqT, qqF, qqN, qqM, qqL, qqE] at h3
     refine VC.sr ?_
     refine VO.mv rfl rfl rfl rfl ?_
     refine VO.op rfl (OpE.call rfl hB rfl Tryz.call116 rfl (SpecN.spec (kit_IsKey (hs.2 _))) ?_)
     rintro _ rfl
     refine VO.val rfl rfl (OpV.not rfl rfl) ?_
     refine VO.ma rfl rfl rfl rfl ?_
     refine VO.nil ?_
     refine VC.cond rfl (fun h4b => ?_) (fun h4b => ?_)
     ·have h4 := h4b
      try simp only [qqT, qqF, qqN, qqM, qqL, qqE] at h4
      refine VC.sr ?_
      refine VO.ma rfl rfl rfl rfl ?_
      refine VO.nil ?_
      refine VC.ret ?_
      exact Exists.intro _ (And.intro (RetN.one Tryz.results314 (ResN.v rfl)) (by rw [setupF_at (by omega) (by omega) (by omega) hn (setupE_5 h3b h4) (by decide)]))
     ·have h4 := h4b
      try simp only [qqT, qqF, qqN, qqM, qqL, qqE] at h4
      refine VC.sr ?_
      refine VO.mv rfl rfl rfl rfl ?_
      refine VO.mv rfl rfl rfl rfl ?_
      refine VO.val rfl rfl (OpV.slice_strs (h := q) rfl Tryz.underlying67 Tryz.sizeOf9 rfl rfl ⟨_, _, rfl, rfl⟩ (by omega) (by omega)) ?_
      refine VO.mv rfl rfl rfl rfl ?_
      refine VO.op rfl (OpE.call rfl hB rfl Tryz.call101 rfl (SpecN.spec (slices_Contains_str (by rw [len_cut (by omega)]; omega))) ?_)
      rintro _ rfl
      refine VO.ma rfl rfl rfl rfl ?_
      refine VO.nil ?_
      refine VC.cond rfl (fun h5b => ?_) (fun h5b => ?_)
      ·have h5 := h5b
       try simp only [qqT, qqF, qqN, qqM, qqL, qqE] at h5
       refine VC.sr ?_
       refine VO.ma rfl rfl rfl rfl ?_
       refine VO.nil ?_
       refine VC.ret ?_
       exact Exists.intro _ (And.intro (RetN.one Tryz.results314 (ResN.v rfl)) (by rw [setupF_at (by omega) (by omega) (by omega) hn (setupE_6 h3b h4 h5) (by decide)]))
      ·have h5 := h5b
       try simp only [qqT, qqF, qqN, qqM, qqL, qqE] at h5
       refine VC.skip ?_
       refine VC.region ?_
       refine VO.val rfl rfl (OpV.add rfl rfl rfl (by unfold fits; omega)) ?_
       refine VO.mv rfl rfl rfl rfl ?_
       refine VO.nil ?_
       exact Exists.intro (⟨q + 1, by omega, lt_succ_cases hn (setupE_0 h3b h4 h5)⟩) (And.intro (Le.mk hB [] ⟨rfl, rfl, rfl, rfl, trivial⟩ rfl rfl (Nat.le_refl _)) (by first | omega | (show _ < _; omega) | (simp only []; omega)))
   ·have aH3 := aH3b
    try simp only [qqT, qqF, qqN, qqM, qqL, qqE] at aH3
    refine VC.exit ?_
    refine VC.sr ?_
    refine VO.ma rfl rfl rfl rfl ?_
    refine VO.nil ?_
    refine VC.ret ?_
    exact Exists.intro _ (And.intro (RetN.one Tryz.results314 (ResN.v rfl)) (by rw [setupF_ok (by omega) (by omega) (fun j hj => hn j (by omega))]))

set_option maxRecDepth 100000 in
theorem setup_CheckParts {n : Int} {p : List (List ByteArray)} (hp : SmSS p) :
  SpecN Tryz.prog 139 [avI n, avM p] (fun y => y = avI (partsF n p)) := by
 have hl := hp.1
 refine SpecN.of_VCN Tryz.func139 rfl Tryz.ntmps139 (Nle rfl) fun w A hB => ?_
 have hnew : True := trivial
 refine VC.sr ?_
 refine VO.ma rfl rfl rfl rfl ?_
 refine VO.nil ?_
 refine VC.seq ?_
 refine VC.sr ?_
 refine VO.mv rfl rfl rfl rfl ?_
 refine VO.op rfl (OpE.call rfl hB rfl Tryz.call119 rfl (SpecN.spec (kit_Outside)) ?_)
 rintro _ rfl
 refine VO.nil ?_
 refine VC.cond rfl (fun h0b => ?_) (fun h0b => ?_)
 ·have h0 := h0b
  try simp only [qqT, qqF, qqN, qqM, qqL, qqE] at h0
  refine VC.sr ?_
  refine VO.ma rfl rfl rfl rfl ?_
  refine VO.nil ?_
  refine VC.ret ?_
  exact Exists.intro _ (And.intro (RetN.one Tryz.results139 (ResN.v rfl)) (by rw [partsF_1 h0b]))
 ·have h0 := h0b
  try simp only [qqT, qqF, qqN, qqM, qqL, qqE] at h0
  refine VC.skip ?_
  refine VC.seq ?_
  refine VC.sr ?_
  refine VO.mv rfl rfl rfl rfl ?_
  refine VO.val rfl rfl (OpV.len_im rfl Tryz.underlying61 rfl) ?_
  refine VO.val rfl rfl (OpV.gtr rfl rfl rfl) ?_
  refine VO.nil ?_
  refine VC.cond rfl (fun aH1b => ?_) (fun aH1b => ?_)
  ·have aH1 := aH1b
   try simp only [qqT, qqF, qqN, qqM, qqL, qqE] at aH1
   refine VC.sr ?_
   refine VO.ma rfl rfl rfl rfl ?_
   refine VO.nil ?_
   refine VC.ret ?_
   exact Exists.intro _ (And.intro (RetN.one Tryz.results139 (ResN.v rfl)) (by rw [partsF_2 h0b (by omega)]))
  ·have aH1 := aH1b
   try simp only [qqT, qqF, qqN, qqM, qqL, qqE] at aH1
   refine VC.skip ?_
   refine VC.seq ?_
   refine VC.sr ?_
   refine VO.mv rfl rfl rfl rfl ?_
   refine VO.val rfl rfl (OpV.len_im rfl Tryz.underlying61 rfl) ?_
   refine VO.mv rfl rfl rfl rfl ?_
   refine VO.nil ?_
   refine VC.block ?_
   refine VC.loopK [(0, _), (14, _), (15, _)] ⟨rfl, rfl, rfl, trivial⟩ ({q : Nat // q ≤ p.length ∧ ∀ j, j < q → partE n (p.getD j default) = 0}) (fun (iZ : {q : Nat // q ≤ p.length ∧ ∀ j, j < q → partE n (p.getD j default) = 0}) => match iZ with | ⟨q, hq, hn⟩ => [(16, avI (q : Int))]) (fun (iZ : {q : Nat // q ≤ p.length ∧ ∀ j, j < q → partE n (p.getD j default) = 0}) => match iZ with | ⟨q, hq, hn⟩ => []) (fun (iZ : {q : Nat // q ≤ p.length ∧ ∀ j, j < q → partE n (p.getD j default) = 0}) => match iZ with | ⟨q, hq, hn⟩ => 0) (fun (iZ : {q : Nat // q ≤ p.length ∧ ∀ j, j < q → partE n (p.getD j default) = 0}) => match iZ with | ⟨q, hq, hn⟩ => p.length - q) ⟨0, Nat.zero_le _, fun j hj => absurd hj (Nat.not_lt_zero j)⟩ (Le.mk hB [] ⟨rfl, rfl, rfl, rfl, trivial⟩ rfl rfl (Nat.le_refl _)) ?_
   rintro ⟨q, hq, hn⟩
   show VC _ _ _ _ ⟨[(16, avI (q : Int))] ++ [(0, _), (14, _), (15, _)], [], 0⟩
   refine VC.sr ?_
   refine VO.val rfl rfl (OpV.lss rfl rfl rfl) ?_
   refine VO.nil ?_
   refine VC.seq ?_
   refine VC.cond rfl (fun aH2b => ?_) (fun aH2b => ?_)
   ·have aH2 := aH2b
    try simp only [qqT, qqF, qqN, qqM, qqL, qqE] at aH2
    refine VC.skip ?_
    refine VC.seq ?_
    refine VC.block ?_
    refine VC.sr ?_
    refine VO.val rfl rfl (OpV.indexAddr_1 rfl Tryz.underlying61 Tryz.sizeOf67 rfl rfl rfl (by omega)) ?_
    refine VO.val rfl rfl (OpV.load_at rfl hB OutW.no Tryz.isAgg67 rfl rfl) ?_
    refine VO.ma rfl rfl rfl rfl ?_
    refine VO.nil ?_
    refine VC.seq ?_
    refine VC.sr ?_
    refine VO.mv rfl rfl rfl rfl ?_
    refine VO.val rfl rfl (OpV.len_im rfl Tryz.underlying67 rfl) ?_
    refine VO.mv rfl rfl rfl rfl ?_
    refine VO.val rfl rfl (OpV.gtr rfl rfl rfl) ?_
    refine VO.nil ?_
    refine VC.cond rfl (fun h3b => ?_) (fun h3b => ?_)
    ·have h3 := h3b
     try simp only [qqT, qqF, qqN, qqM, qqL, qqE] at h3
     have hq0 := partE_12 (slots := n) (l := p.getD q default) (by omega)
     refine VC.sr ?_
     refine VO.ma rfl rfl rfl rfl ?_
     refine VO.nil ?_
     refine VC.ret ?_
     exact Exists.intro _ (And.intro (RetN.one Tryz.results139 (ResN.v rfl)) (by rw [partsF_at h0b (by omega) (by omega) hn hq0 (by decide)]))
    ·have h3 := h3b
     try simp only [qqT, qqF, qqN, qqM, qqL, qqE] at h3
     have hlq := (hp.2 q).1
     have h3' : ¬ n < ((p.getD q default).length : Int) := by omega
     refine VC.skip ?_
     refine VC.sr ?_
     refine VO.mv rfl rfl rfl rfl ?_
     refine VO.val rfl rfl (OpV.len_im rfl Tryz.underlying67 rfl) ?_
     refine VO.mv rfl rfl rfl rfl ?_
     refine VO.nil ?_
     refine VC.block ?_
     refine VC.loopK [(0, _), (6, _), (14, _), (15, _), (16, _), (24, _), (25, _)] ⟨rfl, rfl, rfl, rfl, rfl, rfl, rfl, trivial⟩ ({r : Nat // r ≤ (p.getD q default).length ∧ ∀ j, j < r → canE (p.getD q default) j = 0}) (fun (iZ : {r : Nat // r ≤ (p.getD q default).length ∧ ∀ j, j < r → canE (p.getD q default) j = 0}) => match iZ with | ⟨r, hq1, hn1⟩ => [(26, avI (r : Int))]) (fun (iZ : {r : Nat // r ≤ (p.getD q default).length ∧ ∀ j, j < r → canE (p.getD q default) j = 0}) => match iZ with | ⟨r, hq1, hn1⟩ => []) (fun (iZ : {r : Nat // r ≤ (p.getD q default).length ∧ ∀ j, j < r → canE (p.getD q default) j = 0}) => match iZ with | ⟨r, hq1, hn1⟩ => 0) (fun (iZ : {r : Nat // r ≤ (p.getD q default).length ∧ ∀ j, j < r → canE (p.getD q default) j = 0}) => match iZ with | ⟨r, hq1, hn1⟩ => (p.getD q default).length - r) ⟨0, Nat.zero_le _, fun j hj => absurd hj (Nat.not_lt_zero j)⟩ (Le.mk hB [] ⟨rfl, rfl, rfl, rfl, rfl, rfl, rfl, rfl, trivial⟩ rfl rfl (Nat.le_refl _)) ?_
     rintro ⟨r, hq1, hn1⟩
     show VC _ _ _ _ ⟨[(26, avI (r : Int))] ++ [(0, _), (6, _), (14, _), (15, _), (16, _), (24, _), (25, _)], [], 0⟩
     refine VC.sr ?_
     refine VO.val rfl rfl (OpV.lss rfl rfl rfl) ?_
     refine VO.nil ?_
     refine VC.seq ?_
     refine VC.cond rfl (fun aH3b => ?_) (fun aH3b => ?_)
     ·have aH3 := aH3b
      try simp only [qqT, qqF, qqN, qqM, qqL, qqE] at aH3
      refine VC.skip ?_
      refine VC.seq ?_
      refine VC.block ?_
      refine VC.sr ?_
      refine VO.mv rfl rfl rfl rfl ?_
      refine VO.val rfl rfl (OpV.indexAddr_1 rfl Tryz.underlying67 Tryz.sizeOf9 rfl rfl rfl (by omega)) ?_
      refine VO.val rfl rfl (OpV.load_at rfl hB OutW.no Tryz.isAgg9 rfl rfl) ?_
      refine VO.ma rfl rfl rfl rfl ?_
      refine VO.ma rfl rfl rfl rfl ?_
      refine VO.nil ?_
      refine VC.seq ?_
      refine VC.sr ?_
      refine VO.mv rfl rfl rfl rfl ?_
      refine VO.op rfl (OpE.call rfl hB rfl Tryz.call116 rfl (SpecN.spec (kit_IsKey ((hp.2 _).2 _))) ?_)
      rintro _ rfl
      refine VO.val rfl rfl (OpV.not rfl rfl) ?_
      refine VO.nil ?_
      refine VC.cond rfl (fun hkb => ?_) (fun hkb => ?_)
      ·have hk := hkb
       try simp only [qqT, qqF, qqN, qqM, qqL, qqE] at hk
       refine VC.sr ?_
       refine VO.ma rfl rfl rfl rfl ?_
       refine VO.nil ?_
       refine VC.ret ?_
       exact Exists.intro _ (And.intro (RetN.one Tryz.results139 (ResN.v rfl)) (by rw [partsF_at h0b (by omega) (by omega) hn (partE_at h3' (by omega) hn1 (canE_5 hk) (by decide)) (by decide)]))
      ·have hk := hkb
       try simp only [qqT, qqF, qqN, qqM, qqL, qqE] at hk
       refine VC.skip ?_
       refine VC.sr ?_
       refine VO.mv rfl rfl rfl rfl ?_
       refine VO.val rfl rfl (OpV.gtr rfl rfl rfl) ?_
       refine VO.mv rfl rfl rfl rfl ?_
       refine VO.opG rfl rfl rfl rfl (fun aK4b => ?_) (fun aK4b => ?_)
       ·replace aK4b : _ = true := aK4b
        have aK4 := aK4b
        try simp only [qqT, qqF, qqN, qqM, qqL, qqE] at aK4
        refine OpE.val (W := NoB) (OpV.move (.inl rfl) rfl) rfl ?_
        refine VO.opY rfl rfl rfl rfl aK4b ?_
        refine OpE.val (W := NoB) (OpV.move (.inl rfl) rfl) rfl ?_
        refine VO.opY rfl rfl rfl rfl aK4b ?_
        refine OpE.val (W := NoB) (OpV.move (.inl rfl) rfl) rfl ?_
        refine VO.opY rfl rfl rfl rfl aK4b ?_
        refine OpE.val (W := NoB) (OpV.sub rfl rfl rfl (by unfold fits; omega)) rfl ?_
        refine VO.opY rfl rfl rfl rfl aK4b ?_
        refine OpE.val (W := NoB) (OpV.indexAddr_1 rfl Tryz.underlying67 Tryz.sizeOf9 rfl rfl (show ((r : Int) - 1) = ((r - 1 : Nat) : Int) by omega) (by omega)) rfl ?_
        refine VO.opY rfl rfl rfl rfl aK4b ?_
        refine OpE.val (W := NoB) (OpV.load_at rfl hB OutW.no Tryz.isAgg9 rfl rfl) rfl ?_
        refine VO.opY rfl rfl rfl rfl aK4b ?_
        refine OpE.val (W := NoB) (OpV.sleq rfl rfl rfl) rfl ?_
        refine VO.val rfl rfl (OpV.pickT rfl rfl rfl rfl aK4b) ?_
        refine VO.nil ?_
        refine VC.cond rfl (fun hsb => ?_) (fun hsb => ?_)
        ·have hs := hsb
         try simp only [qqT, qqF, qqN, qqM, qqL, qqE] at hs
         refine VC.sr ?_
         refine VO.ma rfl rfl rfl rfl ?_
         refine VO.nil ?_
         refine VC.ret ?_
         exact Exists.intro _ (And.intro (RetN.one Tryz.results139 (ResN.v rfl)) (by rw [partsF_at h0b (by omega) (by omega) hn (partE_at h3' (by omega) hn1 (canE_7 hk (by omega) hs) (by decide)) (by decide)]))
        ·have hs := hsb
         try simp only [qqT, qqF, qqN, qqM, qqL, qqE] at hs
         refine VC.skip ?_
         refine VC.region ?_
         refine VO.val rfl rfl (OpV.add rfl rfl rfl (by unfold fits; omega)) ?_
         refine VO.mv rfl rfl rfl rfl ?_
         refine VO.nil ?_
         exact Exists.intro (⟨r + 1, by omega, lt_succ_cases hn1 (canE_0 hk (.inr hs))⟩) (And.intro (Le.mk hB [] ⟨rfl, rfl, rfl, rfl, rfl, rfl, rfl, rfl, trivial⟩ rfl rfl (Nat.le_refl _)) (by first | omega | (show _ < _; omega) | (simp only []; omega)))
       ·replace aK4b : _ = false := aK4b
        have aK4 := aK4b
        try simp only [qqT, qqF, qqN, qqM, qqL, qqE] at aK4
        refine VO.opX rfl rfl rfl rfl aK4b ?_
        refine VO.opX rfl rfl rfl rfl aK4b ?_
        refine VO.opX rfl rfl rfl rfl aK4b ?_
        refine VO.opX rfl rfl rfl rfl aK4b ?_
        refine VO.opX rfl rfl rfl rfl aK4b ?_
        refine VO.opX rfl rfl rfl rfl aK4b ?_
        refine VO.val rfl rfl (OpV.pickF rfl rfl rfl rfl aK4b) ?_
        refine VO.nil ?_
        refine VC.condF rfl rfl ?_
        refine VC.skip ?_
        refine VC.region ?_
        refine VO.val rfl rfl (OpV.add rfl rfl rfl (by unfold fits; omega)) ?_
        refine VO.mv rfl rfl rfl rfl ?_
        refine VO.nil ?_
        exact Exists.intro (⟨r + 1, by omega, lt_succ_cases hn1 (canE_0 hk (.inl (by omega)))⟩) (And.intro (Le.mk hB [] ⟨rfl, rfl, rfl, rfl, rfl, rfl, rfl, rfl, trivial⟩ rfl rfl (Nat.le_refl _)) (by first | omega | (show _ < _; omega) | (simp only []; omega)))
     ·have aH3 := aH3b
      try simp only [qqT, qqF, qqN, qqM, qqL, qqE] at aH3
      refine VC.exit ?_
      refine VC.region ?_
      refine VO.val rfl rfl (OpV.add rfl rfl rfl (by unfold fits; omega)) ?_
      refine VO.mv rfl rfl rfl rfl ?_
      refine VO.nil ?_
      exact Exists.intro (⟨q + 1, by omega, lt_succ_cases hn (partE_ok h3' (fun j hj => hn1 j (by omega)))⟩) (And.intro (Le.mk hB [] ⟨rfl, rfl, rfl, rfl, trivial⟩ rfl rfl (Nat.le_refl _)) (by first | omega | (show _ < _; omega) | (simp only []; omega)))
   ·have aH2 := aH2b
    try simp only [qqT, qqF, qqN, qqM, qqL, qqE] at aH2
    refine VC.exit ?_
    refine VC.sr ?_
    refine VO.ma rfl rfl rfl rfl ?_
    refine VO.nil ?_
    refine VC.ret ?_
    exact Exists.intro _ (And.intro (RetN.one Tryz.results139 (ResN.v rfl)) (by rw [partsF_ok h0b (by omega) (fun j hj => hn j (by omega))]))
end Go.Proofs.YtaaokimiadfidaaGreatDoor
namespace Go.Proofs.YtaaokimiadfidaaGreatDoor
open Go.RowKit
set_option linter.unusedVariables false
set_option linter.unusedSimpArgs false

theorem take_succ_getD {α : Type} {xs : List α} {q : Nat} {d : α} (h : q < xs.length) : xs.take (q + 1) = xs.take q ++ [xs.getD q d] := by
 rw [List.take_succ_eq_append_getElem h]
 simp [h]
end Go.Proofs.YtaaokimiadfidaaGreatDoor
namespace Go.Proofs.YtaaokimiadfidaaGreatDoor
open Go.RowKit
set_option linter.unusedVariables false
set_option linter.unusedSimpArgs false

def setsF (s : List ByteArray) (p : List (List ByteArray)) : Int := if setupF s ≠ 0 then setupF s else partsF s.length p
set_option maxRecDepth 100000 in
theorem setup_fault {s : List ByteArray} {p : List (List ByteArray)} (hs : SmS s) (hp : SmSS p) :
  SpecN Tryz.prog 244 [avStrs s, avM p] (fun y => y = avI (setsF s p)) := by
 refine SpecN.of_VCN Tryz.func244 rfl Tryz.ntmps244 (Nle rfl) fun w A hB => ?_
 have hnew : True := trivial
 refine VC.sr ?_
 refine VO.ma rfl rfl rfl rfl ?_
 refine VO.nil ?_
 refine VC.seq ?_
 refine VC.sr ?_
 refine VO.mv rfl rfl rfl rfl ?_
 refine VO.op rfl (OpE.call rfl hB rfl Tryz.call314 rfl (SpecN.spec (setup_CheckSetup hs)) ?_)
 rintro _ rfl
 refine VO.ma rfl rfl rfl rfl ?_
 refine VO.nil ?_
 refine VC.sr ?_
 refine VO.mv rfl rfl rfl rfl ?_
 refine VO.val rfl rfl (OpV.neq rfl rfl rfl) ?_
 refine VO.nil ?_
 refine VC.cond rfl (fun h0b => ?_) (fun h0b => ?_)
 ·have h0 := h0b
  try simp only [qqT, qqF, qqN, qqM, qqL, qqE] at h0
  refine VC.sr ?_
  refine VO.mv rfl rfl rfl rfl ?_
  refine VO.ma rfl rfl rfl rfl ?_
  refine VO.nil ?_
  refine VC.ret ?_
  exact Exists.intro _ (And.intro (RetN.one Tryz.results244 (ResN.v rfl)) (by first | rw [setsF, if_pos h0] | rw [setsF, if_neg (by omega)]))
 ·have h0 := h0b
  try simp only [qqT, qqF, qqN, qqM, qqL, qqE] at h0
  refine VC.skip ?_
  refine VC.sr ?_
  refine VO.mv rfl rfl rfl rfl ?_
  refine VO.val rfl rfl (OpV.len_im rfl Tryz.underlying67 rfl) ?_
  refine VO.mv rfl rfl rfl rfl ?_
  refine VO.op rfl (OpE.call rfl hB rfl Tryz.call139 rfl (SpecN.spec (setup_CheckParts hp)) ?_)
  rintro _ rfl
  refine VO.ma rfl rfl rfl rfl ?_
  refine VO.nil ?_
  refine VC.ret ?_
  exact Exists.intro _ (And.intro (RetN.one Tryz.results244 (ResN.v rfl)) (by first | rw [setsF, if_pos h0] | rw [setsF, if_neg (by omega)]))
set_option maxRecDepth 100000 in
theorem setup_missing {s p : List ByteArray} (hs : SmS s) (hp : SmS p) :
  SpecH Tryz.prog 243 [avStrs s, avStrs p] [] (fun y hp' => ∃ u, y = .v u ∧ hp' = [.row u ((missF s p).length) (1) (strsL (missF s p)) (9)]) := by
 have hl := hp.1
 refine SpecH.of_VC Tryz.func243 rfl Tryz.ntmps243 (Nle rfl) fun w A hB => ?_
 have hnew : True := trivial
 refine VC.sr ?_
 refine VO.ma rfl rfl rfl rfl ?_
 refine VO.nil ?_
 refine VC.sr ?_
 refine VO.ma rfl rfl rfl rfl ?_
 refine VO.nil ?_
 refine VC.seq ?_
 refine VC.sr ?_
 refine VO.mv rfl rfl rfl rfl ?_
 refine VO.val rfl rfl (OpV.len_im rfl Tryz.underlying67 rfl) ?_
 refine VO.mv rfl rfl rfl rfl ?_
 refine VO.nil ?_
 refine VC.block ?_
 refine VC.le _ (Le.nilRow 1 9) ?_
 refine VC.loopK [(0, _), (8, _), (9, _)] ⟨rfl, rfl, rfl, trivial⟩ ({zz : Value × Nat // zz.2 ≤ p.length}) (fun (iZ : {zz : Value × Nat // zz.2 ≤ p.length}) => match iZ with | ⟨⟨u, q⟩, hq⟩ => [(5, .v u), (10, avI (q : Int))]) (fun (iZ : {zz : Value × Nat // zz.2 ≤ p.length}) => match iZ with | ⟨⟨u, q⟩, hq⟩ => [.row u (missF s (p.take q)).length 1 (strsL (missF s (p.take q))) 9]) (fun (iZ : {zz : Value × Nat // zz.2 ≤ p.length}) => match iZ with | ⟨⟨u, q⟩, hq⟩ => 0) (fun (iZ : {zz : Value × Nat // zz.2 ≤ p.length}) => match iZ with | ⟨⟨u, q⟩, hq⟩ => p.length - q) ⟨(.slice none 0 0, 0), Nat.zero_le _⟩ (Le.mk hB [0] ⟨rfl, rfl, rfl, rfl, rfl, trivial⟩ rfl rfl (Nat.le_refl _)) ?_
 rintro ⟨⟨u, q⟩, hq⟩
 show VC _ _ _ _ ⟨[(5, .v u), (10, avI (q : Int))] ++ [(0, _), (8, _), (9, _)], [.row u (missF s (p.take q)).length 1 (strsL (missF s (p.take q))) 9], 0⟩
 simp only at hq
 refine VC.sr ?_
 refine VO.val rfl rfl (OpV.lss rfl rfl rfl) ?_
 refine VO.nil ?_
 refine VC.seq ?_
 refine VC.cond rfl (fun aH1b => ?_) (fun aH1b => ?_)
 ·have aH1 := aH1b
  try simp only [qqT, qqF, qqN, qqM, qqL, qqE] at aH1
  refine VC.skip ?_
  refine VC.seq ?_
  refine VC.block ?_
  refine VC.sr ?_
  refine VO.val rfl rfl (OpV.indexAddr_1 rfl Tryz.underlying67 Tryz.sizeOf9 rfl rfl rfl (by omega)) ?_
  refine VO.val rfl rfl (OpV.load_at rfl hB OutW.no Tryz.isAgg9 rfl rfl) ?_
  refine VO.ma rfl rfl rfl rfl ?_
  refine VO.nil ?_
  refine VC.sr ?_
  refine VO.mv rfl rfl rfl rfl ?_
  refine VO.mv rfl rfl rfl rfl ?_
  refine VO.op rfl (OpE.call rfl hB rfl Tryz.call101 rfl (SpecN.spec (slices_Contains_str hs.1)) ?_)
  rintro _ rfl
  refine VO.val rfl rfl (OpV.not rfl rfl) ?_
  refine VO.nil ?_
  refine VC.cond rfl (fun h1b => ?_) (fun h1b => ?_)
  ·have h1 := h1b
   try simp only [qqT, qqF, qqN, qqM, qqL, qqE] at h1
   have e1 := missF_yes (s := s) (p := p) (q := q) (by omega) h1
   have hm1 : (missF s (p.take q)).length ≤ q := Nat.le_trans (List.length_filter_le _ _) (by simp; omega)
   refine VC.region ?_
   refine VO.mv rfl rfl rfl rfl ?_
   refine VO.mv rfl rfl rfl rfl ?_
   refine VO.op rfl (OpE.buildSlice (zc := #[.string ⟨#[]⟩]) rfl hB rfl Tryz.underlying67 Tryz.sizeOf9 Tryz.zeroValue9 (by decide) (by decide) (by kernel_rfl) rfl rfl ?_)
   refine VO.op rfl (OpE.append1 (i := 0) rfl hB rfl Tryz.underlying67 (infoOf Tryz.t9 1 (by kernel_rfl) rfl rfl) rfl (by decide) (by decide) rfl rfl rfl rfl (strsL_snoc _ _) (by omega) (fun _ _ => trivial) ?_)
   intro u2
   refine VO.ma rfl rfl rfl rfl ?_
   refine VO.nil ?_
   refine VC.region ?_
   refine VO.val rfl rfl (OpV.add rfl rfl rfl (by unfold fits; omega)) ?_
   refine VO.mv rfl rfl rfl rfl ?_
   refine VO.nil ?_
   exact Exists.intro (⟨(u2, q + 1), by show _ ≤ _; omega⟩) (And.intro (Le.mk hB [0] ⟨rfl, rfl, rfl, rfl, rfl, trivial⟩ rfl (by dsimp only; first | (rw [e1]; rfl) | (rw [e1, List.length_append]; rfl)) (Nat.le_refl _)) (by first | omega | (show _ < _; omega) | (simp only []; omega)))
  ·have h1 := h1b
   try simp only [qqT, qqF, qqN, qqM, qqL, qqE] at h1
   have e1 := missF_no (s := s) (p := p) (q := q) (by omega) h1
   refine VC.skip ?_
   refine VC.region ?_
   refine VO.val rfl rfl (OpV.add rfl rfl rfl (by unfold fits; omega)) ?_
   refine VO.mv rfl rfl rfl rfl ?_
   refine VO.nil ?_
   exact Exists.intro (⟨(u, q + 1), by show _ ≤ _; omega⟩) (And.intro (Le.mk hB [0] ⟨rfl, rfl, rfl, rfl, rfl, trivial⟩ rfl (by dsimp only; first | (rw [e1]; rfl) | (rw [e1, List.length_append]; rfl)) (Nat.le_refl _)) (by first | omega | (show _ < _; omega) | (simp only []; omega)))
 ·have aH1 := aH1b
  try simp only [qqT, qqF, qqN, qqM, qqL, qqE] at aH1
  obtain rfl : q = p.length := by omega
  rw [List.take_length]
  refine VC.exit ?_
  refine VC.sr ?_
  refine VO.mv rfl rfl rfl rfl ?_
  refine VO.ma rfl rfl rfl rfl ?_
  refine VO.nil ?_
  refine VC.le ⟨[(4, _)], [_], 0⟩ (Le.pick hB [0] ⟨rfl, trivial⟩ rfl rfl (Nat.le_refl _)) ?_
  refine VC.ret ?_
  exact Exists.intro _ (And.intro (RetV.one Tryz.results243 (ResV.tmp rfl)) (⟨_, rfl, rfl⟩))
theorem setup_missing_N {s p : List ByteArray} (hs : SmS s) (hp : SmS p) : SpecN Tryz.prog 243 [avStrs s, avStrs p] (fun y => y = avStrs (missF s p)) :=
 SpecN.ofRow (setup_missing hs hp) (flat_strs _) fun w Z u h => Rep.strs rfl h


theorem SmS.nil : SmS [] := ⟨by simp, fun i => by simp [List.getD_eq_getElem?_getD]⟩
theorem SmSS.one {p : List ByteArray} (hp : SmS p) : SmSS [p] := ⟨by simp, fun i => by cases i with | zero => exact hp | succ i => exact SmS.nil⟩
end Go.Proofs.YtaaokimiadfidaaGreatDoor
namespace Go.Proofs.YtaaokimiadfidaaGreatDoor
open Go.RowKit
set_option linter.unusedVariables false
set_option linter.unusedSimpArgs false

theorem missF_mem {s p : List ByteArray} {x : ByteArray} : x ∈ missF s p ↔ x ∈ p ∧ x ∉ s := by
 unfold missF
 rw [List.mem_filter]
 constructor
 ·rintro ⟨h1, h2⟩; exact ⟨h1, has_not.1 (by simpa using h2)⟩
 ·rintro ⟨h1, h2⟩; exact ⟨h1, by rw [has_not.2 h2]; rfl⟩
theorem missF_nodup {s p : List ByteArray} (h : p.Nodup) : (missF s p).Nodup := h.sublist List.filter_sublist
theorem missF_len (s p : List ByteArray) : (missF s p).length ≤ p.length := List.length_filter_le _ _
section
variable {parts : List ByteArray} {later : List (List ByteArray)}
theorem nextL_mem : ∀ (l s : List ByteArray) (x : ByteArray), x ∈ nextL parts later s l → x ∈ s ∨ x ∈ l
 | [], s, x, h => .inl h
 | y :: l, s, x, h => by
  rcases nextL_mem l _ x h with h1 | h1
  ·rcases List.mem_or_eq_of_mem_set h1 with h2 | h2
   ·exact .inl h2
   ·exact .inr (by simp [h2])
  ·exact .inr (by simp [h1])
theorem nextL_take_succ {s l : List ByteArray} {q : Nat} (h : q < l.length) : nextL parts later s (l.take (q + 1)) = (nextL parts later s (l.take q)).set (slotF (nextL parts later s (l.take q)) parts later).toNat (l.getD q ByteArray.empty) := by
 rw [take_succ_getD (d := ByteArray.empty) h, nextL_snoc]
theorem nextL_fits {s l : List ByteArray} (hf : Fits s parts) (hl : l.Nodup) (hs : ∀ x ∈ l, x ∉ s) : ∀ q, q ≤ l.length → Fits (nextL parts later s (l.take q)) parts
 | 0, _ => by simpa [nextL] using hf
 | q + 1, hq => by
  rw [nextL_take_succ (by omega)]
  refine (nextL_fits hf hl hs q (by omega)).set (fun hc => ?_) _
  have hx : l.getD q ByteArray.empty ∈ l := by simp [show q < l.length by omega]
  rcases nextL_mem _ _ _ hc with h1 | h1
  ·exact hs _ hx h1
  ·obtain ⟨j, hj, e⟩ := List.mem_iff_getElem.1 h1
   have hj' : j < q ∧ j < l.length := by simp at hj; omega
   rw [List.getElem_take] at e
   have hd := List.pairwise_iff_getElem.1 hl j q hj'.2 (by omega) hj'.1
   apply hd
   rw [e]
   simp [show q < l.length by omega]
theorem nextL_not {s l : List ByteArray} (hl : l.Nodup) (hs : ∀ x ∈ l, x ∉ s) {q : Nat} (hq : q < l.length) : l.getD q ByteArray.empty ∉ nextL parts later s (l.take q) := fun hc => by
 have hx : l.getD q ByteArray.empty ∈ l := by simp [hq]
 rcases nextL_mem _ _ _ hc with h1 | h1
 ·exact hs _ hx h1
 ·obtain ⟨j, hj, e⟩ := List.mem_iff_getElem.1 h1
  have hj' : j < q ∧ j < l.length := by simp at hj; omega
  rw [List.getElem_take] at e
  have hd := List.pairwise_iff_getElem.1 hl j q hj'.2 (by omega) hj'.1
  apply hd
  rw [e]
  simp [hq]
end
theorem slotF_of_neg {s parts : List ByteArray} {later : List (List ByteArray)} (h : fidx (fun x => sEq ε x) s < 0) : slotF s parts later = (vic s parts later s.length).1 := by rw [slotF, if_pos h]
theorem slotF_of_pos {s parts : List ByteArray} {later : List (List ByteArray)} (h : 0 ≤ fidx (fun x => sEq ε x) s) : slotF s parts later = fidx (fun x => sEq ε x) s := by rw [slotF, if_neg (by omega)]
theorem keyF_size {x : ByteArray} (h : keyF x = true) : 1 ≤ x.size ∧ x.size ≤ 40 := by
 unfold keyF at h
 simp only [Bool.and_eq_true, decide_eq_true_eq] at h
 exact ⟨h.1.1.1, h.1.1.2⟩
theorem canE_key {l : List ByteArray} {i : Nat} (h : canE l i = 0) : keyF (l.getD i ByteArray.empty) = true := by
 cases hk : keyF (l.getD i ByteArray.empty) with
 | true => rfl
 | false => rw [canE_5 hk] at h; cases h
theorem canE_lt {l : List ByteArray} {i : Nat} (h : canE l i = 0) (h0 : 0 < i) : sLt (l.getD (i - 1) ByteArray.empty) (l.getD i ByteArray.empty) = true := by
 have hk := canE_key h
 cases hs : sLe (l.getD i ByteArray.empty) (l.getD (i - 1) ByteArray.empty) with
 | true => rw [canE_7 hk h0 hs] at h; cases h
 | false => exact sLt_of_not hs
theorem can_sort {l : List ByteArray} (h : ∀ j, j < l.length → canE l j = 0) : SortS l := by
 intro a b hab hb
 induction b with
 | zero => omega
 | succ b ih =>
  have h1 := canE_lt (h (b + 1) hb) (by omega)
  simp only [Nat.add_sub_cancel] at h1
  by_cases e : a = b
  ·subst e; exact h1
  ·exact sLt_trans (ih (by omega) (by omega)) h1
theorem sort_nodup {l : List ByteArray} (h : SortS l) : l.Nodup := by
 rw [List.Nodup, List.pairwise_iff_getElem]
 intro i j hi hj hij e
 have := h i j hij hj
 simp only [List.getD_eq_getElem?_getD, List.getElem?_eq_getElem hi, List.getElem?_eq_getElem hj, Option.getD_some, e] at this
 rw [sLt_irr] at this; cases this
theorem getD_mem {l : List ByteArray} {x : ByteArray} (h : x ∈ l) : ∃ j, j < l.length ∧ l.getD j ByteArray.empty = x := by
 obtain ⟨j, hj, rfl⟩ := List.mem_iff_getElem.1 h
 exact ⟨j, hj, by simp [hj]⟩
theorem size_getD {l : List ByteArray} {m : Nat} (h : ∀ x ∈ l, x.size ≤ m) (i : Nat) : (l.getD i ByteArray.empty).size ≤ m := by
 by_cases hi : i < l.length
 ·have := h _ (List.getElem_mem hi)
  simpa [hi] using this
 ·simp [List.getD_eq_getElem?_getD, List.getElem?_eq_none (by omega : l.length ≤ i)]
structure RightP (n : Nat) (l : List ByteArray) : Prop where
 len : l.length ≤ n
 can : ∀ j, j < l.length → canE l j = 0
theorem RightP.of {n : Int} {m : Nat} (hn : n = m) {p : List (List ByteArray)} (h : partsF n p = 0) {q : Nat} (hq : q < p.length) : RightP m (p.getD q default) := by
 obtain ⟨_, _, h3⟩ := partsF_zero h
 obtain ⟨k1, k2⟩ := partE_zero (h3 q hq)
 exact ⟨by omega, k2⟩
theorem RightP.nil (n : Nat) : RightP n [] := ⟨by simp, fun j hj => by simp at hj⟩
section
variable {n : Nat} {l s : List ByteArray}
theorem RightP.keys (h : RightP n l) : ∀ x ∈ l, 1 ≤ x.size ∧ x.size ≤ 40 := fun x hx => by
 obtain ⟨j, hj, rfl⟩ := getD_mem hx
 exact keyF_size (canE_key (h.can j hj))
theorem RightP.sms (h : RightP n l) (hn : n ≤ 1000000000) : SmS l := ⟨by have := h.len; omega, size_getD fun x hx => by have := h.keys x hx; omega⟩
theorem setup_once (h : setupF s = 0) : ∀ i j, i < j → j < s.length → s.getD i ByteArray.empty = s.getD j ByteArray.empty → s.getD j ByteArray.empty = ε := fun i j hij hj e => by
 have h0 := setupF_zero h j hj
 cases he : sEq (s.getD j ByteArray.empty) ε with
 | true => exact sEq_eq.1 he
 | false =>
  exfalso
  cases hk : keyF (s.getD j ByteArray.empty) with
  | false => rw [setupE_5 he hk] at h0; cases h0
  | true =>
   have hh : has (s.take j) (s.getD j ByteArray.empty) = true := by
    rw [has_iff, ← e]
    have hi : i < (s.take j).length := by simp; omega
    have : (s.take j)[i] = s.getD i ByteArray.empty := by simp [show i < s.length by omega]
    rw [← this]; exact List.getElem_mem hi
   rw [setupE_6 he hk hh] at h0; cases h0
theorem setup_size (h : setupF s = 0) : ∀ x ∈ s, x.size ≤ 40 := fun x hx => by
 obtain ⟨j, hj, rfl⟩ := getD_mem hx
 have h0 := setupF_zero h j hj
 cases he : sEq (s.getD j ByteArray.empty) ε with
 | true => rw [sEq_eq.1 he]; decide
 | false =>
  cases hk : keyF (s.getD j ByteArray.empty) with
  | false => rw [setupE_5 he hk] at h0; cases h0
  | true => exact (keyF_size hk).2
theorem RightP.fits (h : RightP s.length l) (ho : ∀ i j, i < j → j < s.length → s.getD i ByteArray.empty = s.getD j ByteArray.empty → s.getD j ByteArray.empty = ε) : Fits s l :=
 ⟨ho, h.len, fun x hx e => by have := h.keys x hx; rw [e] at this; exact absurd this.1 (by decide), sort_nodup (can_sort h.can)⟩
end
structure Good' (s : List ByteArray) : Prop where
 pos : 0 < s.length
 len : s.length ≤ 100
 once : ∀ i j, i < j → j < s.length → s.getD i ByteArray.empty = s.getD j ByteArray.empty → s.getD j ByteArray.empty = ε
 size : ∀ x ∈ s, x.size ≤ 40
theorem Good'.of {s : List ByteArray} (h : setupF s = 0) : Good' s := ⟨(setupF_len h).1, (setupF_len h).2, setup_once h, setup_size h⟩
theorem Good'.sms {s : List ByteArray} (h : Good' s) : SmS s := ⟨by have := h.len; omega, size_getD fun x hx => by have := h.size x hx; omega⟩
theorem Good'.next {s l : List ByteArray} (h : Good' s) (hl : RightP s.length l) (later : List (List ByteArray)) (q : Nat) (hq : q ≤ (missF s l).length) : Good' (nextL l later s ((missF s l).take q)) := by
 have hf := hl.fits h.once
 have hn := nextL_fits (later := later) hf (missF_nodup hf.pnd) (fun x hx => (missF_mem.1 hx).2) q hq
 refine ⟨by rw [nextL_len]; exact h.pos, by rw [nextL_len]; exact h.len, hn.once, fun x hx => ?_⟩
 rcases nextL_mem _ _ _ hx with h1 | h1
 ·exact h.size x h1
 ·exact (hl.keys x (missF_mem.1 (List.mem_of_mem_take h1)).1).2
theorem Good'.nextF {s l : List ByteArray} (h : Good' s) (hl : RightP s.length l) (later : List (List ByteArray)) : Good' (nextF s l later) := by
 have := h.next hl later (missF s l).length (Nat.le_refl _)
 rwa [List.take_length] at this
theorem nextF_len (s l : List ByteArray) (later : List (List ByteArray)) : (nextF s l later).length = s.length := nextL_len _ _ _ _
def stF (s : List ByteArray) (p : List (List ByteArray)) : Nat → List ByteArray
 | 0 => s
 | q + 1 => nextF (stF s p q) (p.getD q default) (p.drop (q + 1))
def totF (s : List ByteArray) (p : List (List ByteArray)) : Nat → Int
 | 0 => 0
 | q + 1 => totF s p q + (missF (stF s p q) (p.getD q default)).length
theorem stF_len (s : List ByteArray) (p : List (List ByteArray)) : ∀ q, (stF s p q).length = s.length
 | 0 => rfl
 | q + 1 => by rw [stF, nextF_len, stF_len s p q]
theorem stF_good {s : List ByteArray} {p : List (List ByteArray)} (h : Good' s) (hp : ∀ q, q < p.length → RightP s.length (p.getD q default)) : ∀ q, q ≤ p.length → Good' (stF s p q)
 | 0, _ => h
 | q + 1, hq => (stF_good h hp q (by omega)).nextF (by rw [stF_len]; exact hp q (by omega)) _
theorem totF_in {s : List ByteArray} {p : List (List ByteArray)} (hs : s.length ≤ 100) (hp : ∀ q, q < p.length → RightP s.length (p.getD q default)) : ∀ q, q ≤ p.length → 0 ≤ totF s p q ∧ totF s p q ≤ 100 * q
 | 0, _ => by simp [totF]
 | q + 1, hq => by
  have ih := totF_in hs hp q (by omega)
  have h1 := missF_len (stF s p q) (p.getD q default)
  have h2 := (hp q (by omega)).len
  rw [totF]
  omega
theorem totF_mono {s : List ByteArray} {p : List (List ByteArray)} {a b : Nat} (h : a ≤ b) : totF s p a ≤ totF s p b := by
 induction b with
 | zero => rw [show a = 0 by omega]; exact Int.le_refl _
 | succ b ih =>
  by_cases e : a = b + 1
  ·rw [e]; exact Int.le_refl _
  ·have := ih (by omega)
   rw [totF]; omega
def totalF (s : List ByteArray) (p : List (List ByteArray)) (most : Int) : Int := if p.length = 0 then 0 else if most ≤ totF s p p.length then most else totF s p p.length
end Go.Proofs.YtaaokimiadfidaaGreatDoor
namespace Go.Proofs.YtaaokimiadfidaaGreatDoor
open Go.RowKit
set_option linter.unusedVariables false
set_option linter.unusedSimpArgs false
set_option maxRecDepth 100000 in
theorem slices_IndexFunc_LL {xs : List (List ByteArray)} {F : FuncId} {cs : List AV} {p : List ByteArray → Bool} (hl : xs.length ≤ 1000000000) (hcall : ∀ us w, (callFunc F us).run Tryz.prog w = .ok (.enter F us) w) (hF : ∀ i, i < xs.length → Spec Tryz.prog F ([avStrs (xs.getD i default)] ++ cs) (fun y => y = avB (p (xs.getD i default)))) :
  SpecN Tryz.prog 415 [avM xs, .fn F cs] (fun y => y = avI (fidx p xs)) := by
 refine SpecN.of_VCN Tryz.func415 rfl Tryz.ntmps415 (Nle rfl) fun w A hB => ?_
 have hnew : True := trivial
 refine VC.sr ?_
 refine VO.ma rfl rfl rfl rfl ?_
 refine VO.nil ?_
 refine VC.seq ?_
 refine VC.sr ?_
 refine VO.mv rfl rfl rfl rfl ?_
 refine VO.val rfl rfl (OpV.len_im rfl Tryz.underlying61 rfl) ?_
 refine VO.mv rfl rfl rfl rfl ?_
 refine VO.nil ?_
 refine VC.block ?_
 refine VC.loopK [(0, _), (1, _), (7, _)] ⟨rfl, rfl, rfl, trivial⟩ ({q : Nat // q ≤ xs.length ∧ ∀ j, j < q → p (xs.getD j default) = false}) (fun (iZ : {q : Nat // q ≤ xs.length ∧ ∀ j, j < q → p (xs.getD j default) = false}) => match iZ with | ⟨q, hq, hn⟩ => [(8, avI (q : Int))]) (fun (iZ : {q : Nat // q ≤ xs.length ∧ ∀ j, j < q → p (xs.getD j default) = false}) => match iZ with | ⟨q, hq, hn⟩ => []) (fun (iZ : {q : Nat // q ≤ xs.length ∧ ∀ j, j < q → p (xs.getD j default) = false}) => match iZ with | ⟨q, hq, hn⟩ => 0) (fun (iZ : {q : Nat // q ≤ xs.length ∧ ∀ j, j < q → p (xs.getD j default) = false}) => match iZ with | ⟨q, hq, hn⟩ => xs.length - q) ⟨0, Nat.zero_le _, fun j hj => absurd hj (Nat.not_lt_zero j)⟩ (Le.mk hB [] ⟨rfl, rfl, rfl, rfl, trivial⟩ rfl rfl (Nat.le_refl _)) ?_
 rintro ⟨q, hq, hn⟩
 show VC _ _ _ _ ⟨[(8, avI (q : Int))] ++ [(0, _), (1, _), (7, _)], [], 0⟩
 refine VC.sr ?_
 refine VO.val rfl rfl (OpV.lss rfl rfl rfl) ?_
 refine VO.nil ?_
 refine VC.seq ?_
 refine VC.cond rfl (fun aH1b => ?_) (fun aH1b => ?_)
 ·have aH1 := aH1b
  try simp only [qqT, qqF, qqN, qqM, qqL, qqE] at aH1
  refine VC.skip ?_
  refine VC.seq ?_
  refine VC.block ?_
  refine VC.sr ?_
  refine VO.mv rfl rfl rfl rfl ?_
  refine VO.ma rfl rfl rfl rfl ?_
  refine VO.nil ?_
  refine VC.sr ?_
  refine VO.mv rfl rfl rfl rfl ?_
  refine VO.mv rfl rfl rfl rfl ?_
  refine VO.mv rfl rfl rfl rfl ?_
  refine VO.val rfl rfl (OpV.indexAddr_1 rfl Tryz.underlying61 Tryz.sizeOf67 rfl rfl rfl (by omega)) ?_
  refine VO.val rfl rfl (OpV.load_at rfl hB OutW.no Tryz.isAgg67 rfl rfl) ?_
  refine VO.op rfl (OpE.callF rfl hB rfl hcall rfl rfl (hF q (by omega)) ?_)
  rintro _ rfl
  refine VO.nil ?_
  refine VC.cond rfl (fun aH2b => ?_) (fun aH2b => ?_)
  ·have aH2 := aH2b
   try simp only [qqT, qqF, qqN, qqM, qqL, qqE] at aH2
   refine VC.sr ?_
   refine VO.mv rfl rfl rfl rfl ?_
   refine VO.ma rfl rfl rfl rfl ?_
   refine VO.nil ?_
   refine VC.ret ?_
   exact Exists.intro _ (And.intro (RetN.one Tryz.results415 (ResN.v rfl)) (by first | (rw [fidx_found (d := default) (q := q) (by omega) hn (by assumption)]) | (rw [fidx_none (d := default) (fun j hj => hn j (by omega))])))
  ·have aH2 := aH2b
   try simp only [qqT, qqF, qqN, qqM, qqL, qqE] at aH2
   refine VC.skip ?_
   refine VC.region ?_
   refine VO.val rfl rfl (OpV.add rfl rfl rfl (by unfold fits; omega)) ?_
   refine VO.mv rfl rfl rfl rfl ?_
   refine VO.nil ?_
   exact Exists.intro (⟨q + 1, by omega, lt_succ_cases hn (by assumption)⟩) (And.intro (Le.mk hB [] ⟨rfl, rfl, rfl, rfl, trivial⟩ rfl rfl (Nat.le_refl _)) (by first | omega | (show _ < _; omega) | (simp only []; omega)))
 ·have aH1 := aH1b
  try simp only [qqT, qqF, qqN, qqM, qqL, qqE] at aH1
  refine VC.exit ?_
  refine VC.sr ?_
  refine VO.ma rfl rfl rfl rfl ?_
  refine VO.nil ?_
  refine VC.ret ?_
  exact Exists.intro _ (And.intro (RetN.one Tryz.results415 (ResN.v rfl)) (by first | (rw [fidx_found (d := default) (q := q) (by omega) hn (by assumption)]) | (rw [fidx_none (d := default) (fun j hj => hn j (by omega))])))
set_option maxRecDepth 100000 in
theorem setup_needed1 {l : List ByteArray} {x : ByteArray} (hl : l.length ≤ 1000000000) :
  SpecN Tryz.prog 416 [avStrs l, .at_ 1 (fun _ => avS x)] (fun y => y = avB (has l x)) := by
 refine SpecN.of_VCN Tryz.func416 rfl Tryz.ntmps416 (Nle rfl) fun w A hB => ?_
 have hnew : True := trivial
 refine VC.sr ?_
 refine VO.ma rfl rfl rfl rfl ?_
 refine VO.nil ?_
 refine VC.sr ?_
 refine VO.mv rfl rfl rfl rfl ?_
 refine VO.val rfl rfl (OpV.load_at rfl hB OutW.no Tryz.isAgg9 rfl rfl) ?_
 refine VO.op rfl (OpE.call rfl hB rfl Tryz.call101 rfl (SpecN.spec (slices_Contains_str hl)) ?_)
 rintro _ rfl
 refine VO.ma rfl rfl rfl rfl ?_
 refine VO.nil ?_
 refine VC.ret ?_
 exact Exists.intro _ (And.intro (RetN.one Tryz.results416 (ResN.v rfl)) (rfl))
set_option maxRecDepth 100000 in
theorem setup_needed {x : ByteArray} {later : List (List ByteArray)} (hp : SmSS later) :
  SpecN Tryz.prog 404 [avS x, avM later] (fun y => y = avI (needF x later)) := by
 have hl := hp.1
 refine SpecN.of_VCN Tryz.func404 rfl Tryz.ntmps404 (Nle rfl) fun w A hB => ?_
 have hnew : True := trivial
 refine VC.sr ?_
 refine VO.op rfl (OpE.box rfl hB rfl rfl rfl ?_)
 intro g2
 refine VO.ma rfl rfl rfl rfl ?_
 refine VO.nil ?_
 refine VC.seq ?_
 refine VC.sr ?_
 refine VO.mv rfl rfl rfl rfl ?_
 refine VO.val rfl rfl (OpV.makeFunc1 rfl rfl) ?_
 refine VO.op rfl (OpE.callL rfl hB rfl Tryz.call415 (slices_IndexFunc_LL (p := fun l => has l x) hl Tryz.call416 (fun i hi => (setup_needed1 (hp.2 i).1).spec)) (ArgsP.cons (ArgP.ev rfl) (ArgsP.cons (ArgP.fn1 (i := 0) (m := 1) (f := fun _ => avS x) rfl rfl (Nle rfl) (lt1 rfl)) (ArgsP.nil))) ?_)
 rintro _ rfl
 refine VO.ma rfl rfl rfl rfl ?_
 refine VO.nil ?_
 refine VC.sr ?_
 refine VO.mv rfl rfl rfl rfl ?_
 refine VO.val rfl rfl (OpV.geq rfl rfl rfl) ?_
 refine VO.nil ?_
 refine VC.cond rfl (fun h0b => ?_) (fun h0b => ?_)
 ·have h0 := h0b
  try simp only [qqT, qqF, qqN, qqM, qqL, qqE] at h0
  refine VC.sr ?_
  refine VO.mv rfl rfl rfl rfl ?_
  refine VO.ma rfl rfl rfl rfl ?_
  refine VO.nil ?_
  refine VC.ret ?_
  exact Exists.intro _ (And.intro (RetN.one Tryz.results404 (ResN.v rfl)) (by first | rw [needF, if_pos h0] | rw [needF, if_neg (by omega)]))
 ·have h0 := h0b
  try simp only [qqT, qqF, qqN, qqM, qqL, qqE] at h0
  refine VC.skip ?_
  refine VC.sr ?_
  refine VO.mv rfl rfl rfl rfl ?_
  refine VO.val rfl rfl (OpV.len_im rfl Tryz.underlying61 rfl) ?_
  refine VO.ma rfl rfl rfl rfl ?_
  refine VO.nil ?_
  refine VC.ret ?_
  exact Exists.intro _ (And.intro (RetN.one Tryz.results404 (ResN.v rfl)) (by first | rw [needF, if_pos h0] | rw [needF, if_neg (by omega)]))
set_option maxRecDepth 100000 in
theorem setup_victim {s parts : List ByteArray} {later : List (List ByteArray)} (hs : s.length ≤ 1000000000) (hp : parts.length ≤ 1000000000) (hl : SmSS later) :
  SpecN Tryz.prog 378 [avStrs s, avStrs parts, avM later] (fun y => y = avI (vic s parts later s.length).1) := by
 have hll := hl.1
 refine SpecN.of_VCN Tryz.func378 rfl Tryz.ntmps378 (Nle rfl) fun w A hB => ?_
 have hnew : True := trivial
 refine VC.sr ?_
 refine VO.ma rfl rfl rfl rfl ?_
 refine VO.nil ?_
 refine VC.sr ?_
 refine VO.ma rfl rfl rfl rfl ?_
 refine VO.ma rfl rfl rfl rfl ?_
 refine VO.nil ?_
 refine VC.seq ?_
 refine VC.sr ?_
 refine VO.mv rfl rfl rfl rfl ?_
 refine VO.val rfl rfl (OpV.len_im rfl Tryz.underlying67 rfl) ?_
 refine VO.mv rfl rfl rfl rfl ?_
 refine VO.nil ?_
 refine VC.block ?_
 refine VC.loopK [(0, _), (1, _), (2, _), (12, _), (13, _)] ⟨rfl, rfl, rfl, rfl, rfl, trivial⟩ ({q : Nat // q ≤ s.length}) (fun (iZ : {q : Nat // q ≤ s.length}) => match iZ with | ⟨q, hq⟩ => [(7, avI (vic s parts later q).1), (8, avI (vic s parts later q).2), (14, avI (q : Int))]) (fun (iZ : {q : Nat // q ≤ s.length}) => match iZ with | ⟨q, hq⟩ => []) (fun (iZ : {q : Nat // q ≤ s.length}) => match iZ with | ⟨q, hq⟩ => 0) (fun (iZ : {q : Nat // q ≤ s.length}) => match iZ with | ⟨q, hq⟩ => s.length - q) ⟨0, Nat.zero_le _⟩ (Le.mk hB [] ⟨rfl, rfl, rfl, rfl, rfl, rfl, rfl, rfl, trivial⟩ rfl rfl (Nat.le_refl _)) ?_
 rintro ⟨q, hq⟩
 show VC _ _ _ _ ⟨[(7, avI (vic s parts later q).1), (8, avI (vic s parts later q).2), (14, avI (q : Int))] ++ [(0, _), (1, _), (2, _), (12, _), (13, _)], [], 0⟩
 refine VC.sr ?_
 refine VO.val rfl rfl (OpV.lss rfl rfl rfl) ?_
 refine VO.nil ?_
 refine VC.seq ?_
 refine VC.cond rfl (fun aH1b => ?_) (fun aH1b => ?_)
 ·have aH1 := aH1b
  try simp only [qqT, qqF, qqN, qqM, qqL, qqE] at aH1
  refine VC.skip ?_
  refine VC.seq ?_
  refine VC.block ?_
  refine VC.sr ?_
  refine VO.mv rfl rfl rfl rfl ?_
  refine VO.val rfl rfl (OpV.indexAddr_1 rfl Tryz.underlying67 Tryz.sizeOf9 rfl rfl rfl (by omega)) ?_
  refine VO.val rfl rfl (OpV.load_at rfl hB OutW.no Tryz.isAgg9 rfl rfl) ?_
  refine VO.ma rfl rfl rfl rfl ?_
  refine VO.ma rfl rfl rfl rfl ?_
  refine VO.nil ?_
  refine VC.seq ?_
  refine VC.sr ?_
  refine VO.mv rfl rfl rfl rfl ?_
  refine VO.mv rfl rfl rfl rfl ?_
  refine VO.op rfl (OpE.call rfl hB rfl Tryz.call101 rfl (SpecN.spec (slices_Contains_str hp)) ?_)
  rintro _ rfl
  refine VO.nil ?_
  refine VC.cond rfl (fun h1b => ?_) (fun h1b => ?_)
  ·have h1 := h1b
   try simp only [qqT, qqF, qqN, qqM, qqL, qqE] at h1
   refine VC.exit ?_
   refine VC.region ?_
   refine VO.val rfl rfl (OpV.add rfl rfl rfl (by unfold fits; omega)) ?_
   refine VO.mv rfl rfl rfl rfl ?_
   refine VO.nil ?_
   exact Exists.intro (⟨q + 1, by omega⟩) (And.intro (Le.mk hB [] ⟨(by dsimp only; first | (rw [vic_has h1]; rfl) | (rw [vic_new h1 (.inl (by assumption))]; rfl) | (rw [vic_new h1 (.inr ⟨by assumption, not_true_false h2b⟩)]; rfl) | (rw [vic_old (s := s) (parts := parts) (later := later) (q := q) h1 (by rintro (h8 | ⟨h8, h9⟩); exact absurd h8 (by omega); exact absurd (h9.symm.trans (not_false_true h2b)) Bool.false_ne_true)]; rfl) | (rw [vic_old (s := s) (parts := parts) (later := later) (q := q) h1 (by rintro (h8 | ⟨h8, h9⟩); omega; omega)]; rfl)), (by dsimp only; first | (rw [vic_has h1]; rfl) | (rw [vic_new h1 (.inl (by assumption))]; rfl) | (rw [vic_new h1 (.inr ⟨by assumption, not_true_false h2b⟩)]; rfl) | (rw [vic_old (s := s) (parts := parts) (later := later) (q := q) h1 (by rintro (h8 | ⟨h8, h9⟩); exact absurd h8 (by omega); exact absurd (h9.symm.trans (not_false_true h2b)) Bool.false_ne_true)]; rfl) | (rw [vic_old (s := s) (parts := parts) (later := later) (q := q) h1 (by rintro (h8 | ⟨h8, h9⟩); omega; omega)]; rfl)), rfl, rfl, rfl, rfl, rfl, rfl, trivial⟩ rfl rfl (Nat.le_refl _)) (by first | omega | (show _ < _; omega) | (simp only []; omega)))
  ·have h1 := h1b
   try simp only [qqT, qqF, qqN, qqM, qqL, qqE] at h1
   refine VC.skip ?_
   refine VC.sr ?_
   refine VO.mv rfl rfl rfl rfl ?_
   refine VO.mv rfl rfl rfl rfl ?_
   refine VO.op rfl (OpE.call rfl hB rfl Tryz.call404 rfl (SpecN.spec (setup_needed hl)) ?_)
   rintro _ rfl
   refine VO.ma rfl rfl rfl rfl ?_
   refine VO.nil ?_
   refine VC.sr ?_
   refine VO.mv rfl rfl rfl rfl ?_
   refine VO.mv rfl rfl rfl rfl ?_
   refine VO.val rfl rfl (OpV.gtr rfl rfl rfl) ?_
   refine VO.mv rfl rfl rfl rfl ?_
   refine VO.opG rfl rfl rfl rfl (fun aK2b => ?_) (fun aK2b => ?_)
   ·replace aK2b : _ = false := aK2b
    have aK2 := aK2b
    try simp only [qqT, qqF, qqN, qqM, qqL, qqE] at aK2
    refine OpE.val (W := NoB) (OpV.move (.inl rfl) rfl) rfl ?_
    refine VO.opY rfl rfl rfl rfl aK2b ?_
    refine OpE.val (W := NoB) (OpV.move (.inl rfl) rfl) rfl ?_
    refine VO.opY rfl rfl rfl rfl aK2b ?_
    refine OpE.val (W := NoB) (OpV.eql rfl rfl rfl) rfl ?_
    refine VO.opY rfl rfl rfl rfl aK2b ?_
    refine OpE.val (W := NoB) (OpV.move (.inl rfl) rfl) rfl ?_
    refine VO.opG rfl rfl rfl rfl (fun aK3b => ?_) (fun aK3b => ?_)
    ·replace aK3b : _ = true := aK3b
     have aK3 := aK3b
     try simp only [qqT, qqF, qqN, qqM, qqL, qqE] at aK3
     refine OpE.val (W := NoB) (OpV.move (.inl rfl) rfl) rfl ?_
     refine VO.opY rfl rfl rfl rfl aK3b ?_
     refine OpE.val (W := NoB) (OpV.move (.inl rfl) rfl) rfl ?_
     refine VO.opY rfl rfl rfl rfl aK3b ?_
     refine OpE.val (W := NoB) (OpV.move (.inl rfl) rfl) rfl ?_
     refine VO.opY rfl rfl rfl rfl aK3b ?_
     refine OpE.val (W := NoB) (OpV.indexAddr_1 rfl Tryz.underlying67 Tryz.sizeOf9 rfl rfl (Int.toNat_of_nonneg (vic_tie (by assumption)).1).symm (by have h7 := vic_tie (s := s) (parts := parts) (by assumption); omega)) rfl ?_
     refine VO.opY rfl rfl rfl rfl aK3b ?_
     refine OpE.val (W := NoB) (OpV.load_at rfl hB OutW.no Tryz.isAgg9 rfl rfl) rfl ?_
     refine VO.opY rfl rfl rfl rfl aK3b ?_
     refine OpE.val (W := NoB) (OpV.sgtr rfl rfl rfl) rfl ?_
     refine VO.opY rfl rfl rfl rfl aK2b ?_
     refine OpE.val (W := NoB) (OpV.pickT rfl rfl rfl rfl aK3b) rfl ?_
     refine VO.val rfl rfl (OpV.pickF rfl rfl rfl rfl aK2b) ?_
     refine VO.nil ?_
     refine VC.cond rfl (fun h2b => ?_) (fun h2b => ?_)
     ·have h2 := h2b
      try simp only [qqT, qqF, qqN, qqM, qqL, qqE] at h2
      refine VC.region ?_
      refine VO.mv rfl rfl rfl rfl ?_
      refine VO.mv rfl rfl rfl rfl ?_
      refine VO.ma rfl rfl rfl rfl ?_
      refine VO.ma rfl rfl rfl rfl ?_
      refine VO.nil ?_
      refine VC.region ?_
      refine VO.val rfl rfl (OpV.add rfl rfl rfl (by unfold fits; omega)) ?_
      refine VO.mv rfl rfl rfl rfl ?_
      refine VO.nil ?_
      exact Exists.intro (⟨q + 1, by omega⟩) (And.intro (Le.mk hB [] ⟨(by dsimp only; first | (rw [vic_has h1]; rfl) | (rw [vic_new h1 (.inl (by assumption))]; rfl) | (rw [vic_new h1 (.inr ⟨by assumption, not_true_false h2b⟩)]; rfl) | (rw [vic_old (s := s) (parts := parts) (later := later) (q := q) h1 (by rintro (h8 | ⟨h8, h9⟩); exact absurd h8 (by omega); exact absurd (h9.symm.trans (not_false_true h2b)) Bool.false_ne_true)]; rfl) | (rw [vic_old (s := s) (parts := parts) (later := later) (q := q) h1 (by rintro (h8 | ⟨h8, h9⟩); omega; omega)]; rfl)), (by dsimp only; first | (rw [vic_has h1]; rfl) | (rw [vic_new h1 (.inl (by assumption))]; rfl) | (rw [vic_new h1 (.inr ⟨by assumption, not_true_false h2b⟩)]; rfl) | (rw [vic_old (s := s) (parts := parts) (later := later) (q := q) h1 (by rintro (h8 | ⟨h8, h9⟩); exact absurd h8 (by omega); exact absurd (h9.symm.trans (not_false_true h2b)) Bool.false_ne_true)]; rfl) | (rw [vic_old (s := s) (parts := parts) (later := later) (q := q) h1 (by rintro (h8 | ⟨h8, h9⟩); omega; omega)]; rfl)), rfl, rfl, rfl, rfl, rfl, rfl, trivial⟩ rfl rfl (Nat.le_refl _)) (by first | omega | (show _ < _; omega) | (simp only []; omega)))
     ·have h2 := h2b
      try simp only [qqT, qqF, qqN, qqM, qqL, qqE] at h2
      refine VC.skip ?_
      refine VC.region ?_
      refine VO.val rfl rfl (OpV.add rfl rfl rfl (by unfold fits; omega)) ?_
      refine VO.mv rfl rfl rfl rfl ?_
      refine VO.nil ?_
      exact Exists.intro (⟨q + 1, by omega⟩) (And.intro (Le.mk hB [] ⟨(by dsimp only; first | (rw [vic_has h1]; rfl) | (rw [vic_new h1 (.inl (by assumption))]; rfl) | (rw [vic_new h1 (.inr ⟨by assumption, not_true_false h2b⟩)]; rfl) | (rw [vic_old (s := s) (parts := parts) (later := later) (q := q) h1 (by rintro (h8 | ⟨h8, h9⟩); exact absurd h8 (by omega); exact absurd (h9.symm.trans (not_false_true h2b)) Bool.false_ne_true)]; rfl) | (rw [vic_old (s := s) (parts := parts) (later := later) (q := q) h1 (by rintro (h8 | ⟨h8, h9⟩); omega; omega)]; rfl)), (by dsimp only; first | (rw [vic_has h1]; rfl) | (rw [vic_new h1 (.inl (by assumption))]; rfl) | (rw [vic_new h1 (.inr ⟨by assumption, not_true_false h2b⟩)]; rfl) | (rw [vic_old (s := s) (parts := parts) (later := later) (q := q) h1 (by rintro (h8 | ⟨h8, h9⟩); exact absurd h8 (by omega); exact absurd (h9.symm.trans (not_false_true h2b)) Bool.false_ne_true)]; rfl) | (rw [vic_old (s := s) (parts := parts) (later := later) (q := q) h1 (by rintro (h8 | ⟨h8, h9⟩); omega; omega)]; rfl)), rfl, rfl, rfl, rfl, rfl, rfl, trivial⟩ rfl rfl (Nat.le_refl _)) (by first | omega | (show _ < _; omega) | (simp only []; omega)))
    ·replace aK3b : _ = false := aK3b
     have aK3 := aK3b
     try simp only [qqT, qqF, qqN, qqM, qqL, qqE] at aK3
     refine VO.opX rfl rfl rfl rfl aK3b ?_
     refine VO.opX rfl rfl rfl rfl aK3b ?_
     refine VO.opX rfl rfl rfl rfl aK3b ?_
     refine VO.opX rfl rfl rfl rfl aK3b ?_
     refine VO.opX rfl rfl rfl rfl aK3b ?_
     refine VO.opY rfl rfl rfl rfl aK2b ?_
     refine OpE.val (W := NoB) (OpV.pickF rfl rfl rfl rfl aK3b) rfl ?_
     refine VO.val rfl rfl (OpV.pickF rfl rfl rfl rfl aK2b) ?_
     refine VO.nil ?_
     refine VC.condF rfl rfl ?_
     refine VC.skip ?_
     refine VC.region ?_
     refine VO.val rfl rfl (OpV.add rfl rfl rfl (by unfold fits; omega)) ?_
     refine VO.mv rfl rfl rfl rfl ?_
     refine VO.nil ?_
     exact Exists.intro (⟨q + 1, by omega⟩) (And.intro (Le.mk hB [] ⟨(by dsimp only; first | (rw [vic_has h1]; rfl) | (rw [vic_new h1 (.inl (by assumption))]; rfl) | (rw [vic_new h1 (.inr ⟨by assumption, not_true_false h2b⟩)]; rfl) | (rw [vic_old (s := s) (parts := parts) (later := later) (q := q) h1 (by rintro (h8 | ⟨h8, h9⟩); exact absurd h8 (by omega); exact absurd (h9.symm.trans (not_false_true h2b)) Bool.false_ne_true)]; rfl) | (rw [vic_old (s := s) (parts := parts) (later := later) (q := q) h1 (by rintro (h8 | ⟨h8, h9⟩); omega; omega)]; rfl)), (by dsimp only; first | (rw [vic_has h1]; rfl) | (rw [vic_new h1 (.inl (by assumption))]; rfl) | (rw [vic_new h1 (.inr ⟨by assumption, not_true_false h2b⟩)]; rfl) | (rw [vic_old (s := s) (parts := parts) (later := later) (q := q) h1 (by rintro (h8 | ⟨h8, h9⟩); exact absurd h8 (by omega); exact absurd (h9.symm.trans (not_false_true h2b)) Bool.false_ne_true)]; rfl) | (rw [vic_old (s := s) (parts := parts) (later := later) (q := q) h1 (by rintro (h8 | ⟨h8, h9⟩); omega; omega)]; rfl)), rfl, rfl, rfl, rfl, rfl, rfl, trivial⟩ rfl rfl (Nat.le_refl _)) (by first | omega | (show _ < _; omega) | (simp only []; omega)))
   ·replace aK2b : _ = true := aK2b
    have aK2 := aK2b
    try simp only [qqT, qqF, qqN, qqM, qqL, qqE] at aK2
    refine VO.opX rfl rfl rfl rfl aK2b ?_
    refine VO.opX rfl rfl rfl rfl aK2b ?_
    refine VO.opX rfl rfl rfl rfl aK2b ?_
    refine VO.opU rfl rfl rfl rfl ?_
    refine VO.opU rfl rfl rfl rfl ?_
    refine VO.opU rfl rfl rfl rfl ?_
    refine VO.opU rfl rfl rfl rfl ?_
    refine VO.opU rfl rfl rfl rfl ?_
    refine VO.opU rfl rfl rfl rfl ?_
    refine VO.opX rfl rfl rfl rfl aK2b ?_
    refine VO.val rfl rfl (OpV.pickT rfl rfl rfl rfl aK2b) ?_
    refine VO.nil ?_
    refine VC.condT rfl rfl ?_
    refine VC.region ?_
    refine VO.mv rfl rfl rfl rfl ?_
    refine VO.mv rfl rfl rfl rfl ?_
    refine VO.ma rfl rfl rfl rfl ?_
    refine VO.ma rfl rfl rfl rfl ?_
    refine VO.nil ?_
    refine VC.region ?_
    refine VO.val rfl rfl (OpV.add rfl rfl rfl (by unfold fits; omega)) ?_
    refine VO.mv rfl rfl rfl rfl ?_
    refine VO.nil ?_
    exact Exists.intro (⟨q + 1, by omega⟩) (And.intro (Le.mk hB [] ⟨(by dsimp only; first | (rw [vic_has h1]; rfl) | (rw [vic_new h1 (.inl (by assumption))]; rfl) | (rw [vic_new h1 (.inr ⟨by assumption, not_true_false h2b⟩)]; rfl) | (rw [vic_old (s := s) (parts := parts) (later := later) (q := q) h1 (by rintro (h8 | ⟨h8, h9⟩); exact absurd h8 (by omega); exact absurd (h9.symm.trans (not_false_true h2b)) Bool.false_ne_true)]; rfl) | (rw [vic_old (s := s) (parts := parts) (later := later) (q := q) h1 (by rintro (h8 | ⟨h8, h9⟩); omega; omega)]; rfl)), (by dsimp only; first | (rw [vic_has h1]; rfl) | (rw [vic_new h1 (.inl (by assumption))]; rfl) | (rw [vic_new h1 (.inr ⟨by assumption, not_true_false h2b⟩)]; rfl) | (rw [vic_old (s := s) (parts := parts) (later := later) (q := q) h1 (by rintro (h8 | ⟨h8, h9⟩); exact absurd h8 (by omega); exact absurd (h9.symm.trans (not_false_true h2b)) Bool.false_ne_true)]; rfl) | (rw [vic_old (s := s) (parts := parts) (later := later) (q := q) h1 (by rintro (h8 | ⟨h8, h9⟩); omega; omega)]; rfl)), rfl, rfl, rfl, rfl, rfl, rfl, trivial⟩ rfl rfl (Nat.le_refl _)) (by first | omega | (show _ < _; omega) | (simp only []; omega)))
 ·have aH1 := aH1b
  try simp only [qqT, qqF, qqN, qqM, qqL, qqE] at aH1
  refine VC.exit ?_
  refine VC.sr ?_
  refine VO.mv rfl rfl rfl rfl ?_
  refine VO.ma rfl rfl rfl rfl ?_
  refine VO.nil ?_
  refine VC.ret ?_
  exact Exists.intro _ (And.intro (RetN.one Tryz.results378 (ResN.v rfl)) (by rw [show q = s.length by omega]))
end Go.Proofs.YtaaokimiadfidaaGreatDoor
namespace Go.Proofs.YtaaokimiadfidaaGreatDoor
open Go.RowKit
set_option linter.unusedVariables false
set_option linter.unusedSimpArgs false
set_option maxRecDepth 100000 in
theorem setup_next {s parts : List ByteArray} {later : List (List ByteArray)} {u : Value} (hg : Good' s) (hp : RightP s.length parts) (hl : SmSS later) :
  SpecH Tryz.prog 315 [.v u, avStrs parts, avM later] [.row u s.length 1 (strsL s) 9] (fun y hp' => y = avI (missF s parts).length ∧ hp' = [.row u s.length 1 (strsL (nextF s parts later)) 9]) := by
 have hls := hg.len
 have hlp := hp.len
 have hps := hp.sms (by omega)
 have hml := missF_len s parts
 have hf := hp.fits hg.once
 have hnd := missF_nodup (s := s) hf.pnd
 have hns : ∀ x ∈ missF s parts, x ∉ s := fun x hx => (missF_mem.1 hx).2
 refine SpecH.of_VC Tryz.func315 rfl Tryz.ntmps315 (Nle rfl) fun w A hB => ?_
 have hnew : True := trivial
 refine VC.sr ?_
 refine VO.ma rfl rfl rfl rfl ?_
 refine VO.nil ?_
 refine VC.sr ?_
 refine VO.mv rfl rfl rfl rfl ?_
 refine VO.mv rfl rfl rfl rfl ?_
 refine VO.op rfl (OpE.callL rfl hB rfl Tryz.call243 (setup_missing_N hg.sms hps) (ArgsP.cons (ArgP.rowS (i := 0) rfl rfl rfl) (ArgsP.cons (ArgP.ev rfl) (ArgsP.nil))) ?_)
 rintro _ rfl
 refine VO.ma rfl rfl rfl rfl ?_
 refine VO.nil ?_
 refine VC.seq ?_
 refine VC.sr ?_
 refine VO.mv rfl rfl rfl rfl ?_
 refine VO.val rfl rfl (OpV.len_im rfl Tryz.underlying67 rfl) ?_
 refine VO.mv rfl rfl rfl rfl ?_
 refine VO.nil ?_
 refine VC.block ?_
 refine VC.loopK [(0, _), (1, _), (2, _), (7, _), (14, _), (15, _)] ⟨rfl, rfl, rfl, rfl, rfl, rfl, trivial⟩ ({q : Nat // q ≤ (missF s parts).length}) (fun (iZ : {q : Nat // q ≤ (missF s parts).length}) => match iZ with | ⟨q, hq⟩ => [(16, avI (q : Int))]) (fun (iZ : {q : Nat // q ≤ (missF s parts).length}) => match iZ with | ⟨q, hq⟩ => [.row u s.length 1 (strsL (nextL parts later s ((missF s parts).take q))) 9]) (fun (iZ : {q : Nat // q ≤ (missF s parts).length}) => match iZ with | ⟨q, hq⟩ => 0) (fun (iZ : {q : Nat // q ≤ (missF s parts).length}) => match iZ with | ⟨q, hq⟩ => (missF s parts).length - q) ⟨0, Nat.zero_le _⟩ (Le.mk hB [0] ⟨rfl, rfl, rfl, rfl, rfl, rfl, rfl, trivial⟩ rfl rfl (Nat.le_refl _)) ?_
 rintro ⟨q, hq⟩
 show VC _ _ _ _ ⟨[(16, avI (q : Int))] ++ [(0, _), (1, _), (2, _), (7, _), (14, _), (15, _)], [.row u s.length 1 (strsL (nextL parts later s ((missF s parts).take q))) 9], 0⟩
 refine VC.sr ?_
 refine VO.val rfl rfl (OpV.lss rfl rfl rfl) ?_
 refine VO.nil ?_
 refine VC.seq ?_
 refine VC.cond rfl (fun aH1b => ?_) (fun aH1b => ?_)
 ·have aH1 := aH1b
  try simp only [qqT, qqF, qqN, qqM, qqL, qqE] at aH1
  have hq' : q < (missF s parts).length := by omega
  have hcur := hg.next hp later q (by omega)
  have hcl : (nextL parts later s ((missF s parts).take q)).length = s.length := nextL_len _ _ _ _
  have hx := nextL_not (parts := parts) (later := later) hnd hns hq'
  have hxp : (missF s parts).getD q ByteArray.empty ∈ parts := (missF_mem.1 (by simp [hq'] : (missF s parts).getD q ByteArray.empty ∈ missF s parts)).1
  obtain ⟨k1, k2, k3⟩ := slotF_in (later := later) (nextL_fits (later := later) hf hnd hns q (by omega)) hxp hx
  rw [hcl] at k2
  refine VC.asBox (i := 0) rfl (by omega) (fun g cap hu hcap hmx => ?_)
  subst hu
  refine VC.skip ?_
  refine VC.seq ?_
  refine VC.block ?_
  refine VC.sr ?_
  refine VO.val rfl rfl (OpV.indexAddr_1 rfl Tryz.underlying67 Tryz.sizeOf9 rfl rfl rfl (by omega)) ?_
  refine VO.val rfl rfl (OpV.load_at rfl hB OutW.no Tryz.isAgg9 rfl rfl) ?_
  refine VO.ma rfl rfl rfl rfl ?_
  refine VO.nil ?_
  refine VC.sr ?_
  refine VO.mv rfl rfl rfl rfl ?_
  refine VO.op rfl (OpE.callL rfl hB rfl Tryz.call226 (slices_Index_str (by rw [hcl]; omega)) (ArgsP.cons (ArgP.boxS (i := 0) rfl rfl hcl.symm hcap hmx) (ArgsP.cons (ArgP.ev rfl) (ArgsP.nil))) ?_)
  rintro _ rfl
  refine VO.ma rfl rfl rfl rfl ?_
  refine VO.nil ?_
  refine VC.seq ?_
  refine VC.sr ?_
  refine VO.mv rfl rfl rfl rfl ?_
  refine VO.val rfl rfl (OpV.lss rfl rfl rfl) ?_
  refine VO.nil ?_
  refine VC.cond rfl (fun h1b => ?_) (fun h1b => ?_)
  ·have h1 := h1b
   try simp only [qqT, qqF, qqN, qqM, qqL, qqE] at h1
   have hsl := slotF_of_neg (parts := parts) (later := later) h1
   rw [hsl] at k1 k2 k3
   refine VC.region ?_
   refine VO.mv rfl rfl rfl rfl ?_
   refine VO.mv rfl rfl rfl rfl ?_
   refine VO.mv rfl rfl rfl rfl ?_
   refine VO.op rfl (OpE.callL rfl hB rfl Tryz.call378 (setup_victim (by rw [hcl]; omega) hps.1 hl) (ArgsP.cons (ArgP.boxS (i := 0) rfl rfl hcl.symm hcap hmx) (ArgsP.cons (ArgP.ev rfl) (ArgsP.cons (ArgP.ev rfl) (ArgsP.nil)))) ?_)
   rintro _ rfl
   refine VO.ma rfl rfl rfl rfl ?_
   refine VO.nil ?_
   refine VC.region ?_
   refine VO.mv rfl rfl rfl rfl ?_
   refine VO.mv rfl rfl rfl rfl ?_
   refine VO.mv rfl rfl rfl rfl ?_
   refine VO.val rfl rfl (OpV.indexAddr_o rfl Tryz.underlying67 Tryz.sizeOf9 rfl rfl (Int.toNat_of_nonneg k1).symm (by omega)) ?_
   refine VO.op rfl (OpE.store1 (i := 0) rfl hB rfl Tryz.sizeOf9 rfl rfl rfl rfl rfl rfl (by rw [strsL_len]; omega) (strsL_set _ _ _) trivial ?_)
   refine VO.nil ?_
   refine VC.le _ (Le.boxRow (i := 0) (n := s.length) (sz := 1) (cap := cap) rfl (by rw [strsL_len, List.length_set]; omega) hcap hmx) ?_
   have e1 := nextL_take_succ (parts := parts) (later := later) (s := s) hq'
   rw [hsl] at e1
   refine VC.region ?_
   refine VO.val rfl rfl (OpV.add rfl rfl rfl (by unfold fits; omega)) ?_
   refine VO.mv rfl rfl rfl rfl ?_
   refine VO.nil ?_
   exact Exists.intro (⟨q + 1, by omega⟩) (And.intro (Le.mk hB [0] ⟨rfl, rfl, rfl, rfl, rfl, rfl, rfl, trivial⟩ rfl (by dsimp only; rw [e1]; first | rfl | (rw [hcl]; rfl)) (Nat.le_refl _)) (by first | omega | (show _ < _; omega) | (simp only []; omega)))
  ·have h1 := h1b
   try simp only [qqT, qqF, qqN, qqM, qqL, qqE] at h1
   have hsl := slotF_of_pos (parts := parts) (later := later) h1
   rw [hsl] at k1 k2 k3
   refine VC.skip ?_
   refine VC.region ?_
   refine VO.mv rfl rfl rfl rfl ?_
   refine VO.mv rfl rfl rfl rfl ?_
   refine VO.mv rfl rfl rfl rfl ?_
   refine VO.val rfl rfl (OpV.indexAddr_o rfl Tryz.underlying67 Tryz.sizeOf9 rfl rfl (Int.toNat_of_nonneg k1).symm (by omega)) ?_
   refine VO.op rfl (OpE.store1 (i := 0) rfl hB rfl Tryz.sizeOf9 rfl rfl rfl rfl rfl rfl (by rw [strsL_len]; omega) (strsL_set _ _ _) trivial ?_)
   refine VO.nil ?_
   refine VC.le _ (Le.boxRow (i := 0) (n := s.length) (sz := 1) (cap := cap) rfl (by rw [strsL_len, List.length_set]; omega) hcap hmx) ?_
   have e1 := nextL_take_succ (parts := parts) (later := later) (s := s) hq'
   rw [hsl] at e1
   refine VC.region ?_
   refine VO.val rfl rfl (OpV.add rfl rfl rfl (by unfold fits; omega)) ?_
   refine VO.mv rfl rfl rfl rfl ?_
   refine VO.nil ?_
   exact Exists.intro (⟨q + 1, by omega⟩) (And.intro (Le.mk hB [0] ⟨rfl, rfl, rfl, rfl, rfl, rfl, rfl, trivial⟩ rfl (by dsimp only; rw [e1]; first | rfl | (rw [hcl]; rfl)) (Nat.le_refl _)) (by first | omega | (show _ < _; omega) | (simp only []; omega)))
 ·have aH1 := aH1b
  try simp only [qqT, qqF, qqN, qqM, qqL, qqE] at aH1
  obtain rfl : q = (missF s parts).length := by omega
  refine VC.exit ?_
  refine VC.sr ?_
  refine VO.mv rfl rfl rfl rfl ?_
  refine VO.val rfl rfl (OpV.len_im rfl Tryz.underlying67 rfl) ?_
  refine VO.ma rfl rfl rfl rfl ?_
  refine VO.nil ?_
  refine VC.ret ?_
  exact Exists.intro _ (And.intro (RetV.one Tryz.results315 (ResV.tmp rfl)) (⟨rfl, by rw [nextF, List.take_length]; rfl⟩))
theorem SmSS.drop {p : List (List ByteArray)} (h : SmSS p) (k : Nat) : SmSS (p.drop k) := ⟨by have := h.1; simp; omega, fun i => by
 have : (p.drop k).getD i default = p.getD (k + i) default := by simp [List.getD_eq_getElem?_getD]
 rw [this]; exact h.2 _⟩
theorem SmSS.take {p : List (List ByteArray)} (h : SmSS p) (k : Nat) : SmSS (p.take k) := ⟨by have := h.1; simp; omega, fun i => by
 by_cases hi : i < k
 ·have : (p.take k).getD i default = p.getD i default := by simp [List.getD_eq_getElem?_getD, List.getElem?_take, hi]
  rw [this]; exact h.2 _
 ·have : (p.take k).getD i default = default := by simp [List.getD_eq_getElem?_getD, List.getElem?_take, hi]
  rw [this]; exact SmS.nil⟩
set_option maxRecDepth 100000 in
theorem setup_total {s : List ByteArray} {p : List (List ByteArray)} {most : Int} (hg : Good' s) (hp : ∀ q, q < p.length → RightP s.length (p.getD q default)) (hl : SmSS p) (hl2 : p.length ≤ 200) (hmost : -1000000 ≤ most ∧ most ≤ 1000000) :
  SpecN Tryz.prog 245 [avStrs s, avM p, avI most] (fun y => y = avI (totalF s p most)) := by
 have hls := hg.len
 refine SpecN.of_VCN Tryz.func245 rfl Tryz.ntmps245 (Nle rfl) fun w A hB => ?_
 have hnew : True := trivial
 refine VC.sr ?_
 refine VO.ma rfl rfl rfl rfl ?_
 refine VO.nil ?_
 refine VC.sr ?_
 refine VO.mv rfl rfl rfl rfl ?_
 refine VO.op rfl (OpE.callR rfl hB rfl Tryz.call138 (slices_CloneS_R (by omega)) (ArgsP.cons (ArgP.ev rfl) (ArgsP.nil)) ?_)
 intro u
 refine VO.ma rfl rfl rfl rfl ?_
 refine VO.nil ?_
 refine VC.sr ?_
 refine VO.ma rfl rfl rfl rfl ?_
 refine VO.nil ?_
 refine VC.seq ?_
 refine VC.sr ?_
 refine VO.mv rfl rfl rfl rfl ?_
 refine VO.val rfl rfl (OpV.len_im rfl Tryz.underlying61 rfl) ?_
 refine VO.mv rfl rfl rfl rfl ?_
 refine VO.nil ?_
 refine VC.block ?_
 refine VC.loopK [(0, _), (1, _), (2, _), (12, _), (13, _)] ⟨rfl, rfl, rfl, rfl, rfl, trivial⟩ ({q : Nat // q ≤ p.length ∧ (q = 0 ∨ totF s p q < most)}) (fun (iZ : {q : Nat // q ≤ p.length ∧ (q = 0 ∨ totF s p q < most)}) => match iZ with | ⟨q, hq, hlt⟩ => [(7, avI (totF s p q)), (14, avI (q : Int))]) (fun (iZ : {q : Nat // q ≤ p.length ∧ (q = 0 ∨ totF s p q < most)}) => match iZ with | ⟨q, hq, hlt⟩ => [.row u (stF s p q).length 1 (strsL (stF s p q)) 9]) (fun (iZ : {q : Nat // q ≤ p.length ∧ (q = 0 ∨ totF s p q < most)}) => match iZ with | ⟨q, hq, hlt⟩ => 0) (fun (iZ : {q : Nat // q ≤ p.length ∧ (q = 0 ∨ totF s p q < most)}) => match iZ with | ⟨q, hq, hlt⟩ => p.length - q) ⟨0, Nat.zero_le _, .inl rfl⟩ (Le.mk hB [0] ⟨rfl, rfl, rfl, rfl, rfl, rfl, rfl, trivial⟩ rfl rfl (Nat.le_refl _)) ?_
 rintro ⟨q, hq, hlt⟩
 show VC _ _ _ _ ⟨[(7, avI (totF s p q)), (14, avI (q : Int))] ++ [(0, _), (1, _), (2, _), (12, _), (13, _)], [.row u (stF s p q).length 1 (strsL (stF s p q)) 9], 0⟩
 refine VC.sr ?_
 refine VO.val rfl rfl (OpV.lss rfl rfl rfl) ?_
 refine VO.nil ?_
 refine VC.seq ?_
 refine VC.cond rfl (fun aH1b => ?_) (fun aH1b => ?_)
 ·have aH1 := aH1b
  try simp only [qqT, qqF, qqN, qqM, qqL, qqE] at aH1
  have hst := stF_good hg hp q (by omega)
  have hsl := stF_len s p q
  have hti := totF_in hls hp q (by omega)
  have hms := missF_len (stF s p q) (p.getD q default)
  have hpl := (hp q (by omega)).len
  refine VC.skip ?_
  refine VC.seq ?_
  refine VC.block ?_
  refine VC.sr ?_
  refine VO.mv rfl rfl rfl rfl ?_
  refine VO.val rfl rfl (OpV.indexAddr_1 rfl Tryz.underlying61 Tryz.sizeOf67 rfl rfl rfl (by omega)) ?_
  refine VO.val rfl rfl (OpV.load_at rfl hB OutW.no Tryz.isAgg67 rfl rfl) ?_
  refine VO.ma rfl rfl rfl rfl ?_
  refine VO.ma rfl rfl rfl rfl ?_
  refine VO.nil ?_
  refine VC.sr ?_
  refine VO.mv rfl rfl rfl rfl ?_
  refine VO.mv rfl rfl rfl rfl ?_
  refine VO.mv rfl rfl rfl rfl ?_
  refine VO.mv rfl rfl rfl rfl ?_
  refine VO.mv rfl rfl rfl rfl ?_
  refine VO.val rfl rfl (OpV.add rfl rfl rfl (by unfold fits; omega)) ?_
  refine VO.val rfl rfl (OpV.slice_M (l := q + 1) rfl Tryz.underlying61 Tryz.sizeOf67 rfl ⟨_, _, rfl, (by omega)⟩ rfl (by omega) (by omega)) ?_
  refine VO.op rfl (OpE.callH0 rfl hB rfl Tryz.call315 rfl rfl (setup_next hst (by rw [hsl]; exact hp q (by omega)) ((hl.take _).drop _)) (List.Perm.refl _) (fun _ _ => trivial) ?_)
  rintro _ _ ⟨rfl, rfl⟩
  refine VO.val rfl rfl (OpV.add rfl rfl rfl (by unfold fits; omega)) ?_
  refine VO.ma rfl rfl rfl rfl ?_
  refine VO.nil ?_
  refine VC.sr ?_
  refine VO.mv rfl rfl rfl rfl ?_
  refine VO.mv rfl rfl rfl rfl ?_
  refine VO.val rfl rfl (OpV.geq rfl rfl rfl) ?_
  refine VO.nil ?_
  refine VC.cond rfl (fun h1b => ?_) (fun h1b => ?_)
  ·have h1 := h1b
   try simp only [qqT, qqF, qqN, qqM, qqL, qqE] at h1
   have hmono := totF_mono (s := s) (p := p) (a := q + 1) (b := p.length) (by omega)
   have h1' : most ≤ totF s p (q + 1) := h1
   refine VC.sr ?_
   refine VO.mv rfl rfl rfl rfl ?_
   refine VO.ma rfl rfl rfl rfl ?_
   refine VO.nil ?_
   refine VC.ret ?_
   exact Exists.intro _ (And.intro (RetN.one Tryz.results245 (ResN.v rfl)) (by rw [totalF, if_neg (by omega), if_pos (by omega)]))
  ·have h1 := h1b
   try simp only [qqT, qqF, qqN, qqM, qqL, qqE] at h1
   refine VC.skip ?_
   refine VC.region ?_
   refine VO.val rfl rfl (OpV.add rfl rfl rfl (by unfold fits; omega)) ?_
   refine VO.mv rfl rfl rfl rfl ?_
   refine VO.nil ?_
   exact Exists.intro (⟨q + 1, by omega, .inr h1⟩) (And.intro (Le.mk hB [0] ⟨rfl, rfl, rfl, rfl, rfl, rfl, rfl, trivial⟩ rfl (by dsimp only; rw [List.take_length, show (stF s p (q + 1)).length = (stF s p q).length by rw [stF_len, stF_len]]; rfl) (Nat.le_refl _)) (by first | omega | (show _ < _; omega) | (simp only []; omega)))
 ·have aH1 := aH1b
  try simp only [qqT, qqF, qqN, qqM, qqL, qqE] at aH1
  obtain rfl : q = p.length := by omega
  refine VC.exit ?_
  refine VC.sr ?_
  refine VO.mv rfl rfl rfl rfl ?_
  refine VO.ma rfl rfl rfl rfl ?_
  refine VO.nil ?_
  refine VC.ret ?_
  exact Exists.intro _ (And.intro (RetN.one Tryz.results245 (ResN.v rfl)) (by rw [totalF]; split; (rw [show p.length = 0 by assumption]; rfl); rw [if_neg (by omega)]))
def totE (s : List ByteArray) (p : List (List ByteArray)) : Int := if setsF s p = 0 then totF s p p.length else 0
theorem setsF_zero {s : List ByteArray} {p : List (List ByteArray)} (h : setsF s p = 0) : setupF s = 0 ∧ Good' s ∧ p.length ≤ 200 ∧ (∀ q, q < p.length → RightP s.length (p.getD q default)) ∧ partsF s.length p = 0 := by
 rw [setsF] at h
 split at h
 ·rename_i h1; exact absurd h h1
 ·rename_i h1
  have h0 : setupF s = 0 := by omega
  exact ⟨h0, Good'.of h0, (partsF_zero h).2.1, fun q hq => RightP.of rfl h hq, h⟩
theorem totalF_big {s : List ByteArray} {p : List (List ByteArray)} (hs : s.length ≤ 100) (hl : p.length ≤ 200) (hp : ∀ q, q < p.length → RightP s.length (p.getD q default)) : totalF s p 20001 = totF s p p.length := by
 have := totF_in hs hp p.length (Nat.le_refl _)
 rw [totalF]
 split
 ·rename_i h; rw [h]; rfl
 ·rw [if_neg (by omega)]
set_option maxRecDepth 100000 in
theorem setup_Total {s : List ByteArray} {p : List (List ByteArray)} (hs : SmS s) (hl : SmSS p) :
  SpecN Tryz.prog 141 [avStrs s, avM p] (fun y => y = .tup [avI (totE s p), avI (setsF s p)]) := by
 refine SpecN.of_VCN Tryz.func141 rfl Tryz.ntmps141 (Nle rfl) fun w A hB => ?_
 have hnew : True := trivial
 refine VC.sr ?_
 refine VO.ma rfl rfl rfl rfl ?_
 refine VO.ma rfl rfl rfl rfl ?_
 refine VO.nil ?_
 refine VC.seq ?_
 refine VC.sr ?_
 refine VO.mv rfl rfl rfl rfl ?_
 refine VO.mv rfl rfl rfl rfl ?_
 refine VO.op rfl (OpE.call rfl hB rfl Tryz.call244 rfl (SpecN.spec (setup_fault hs hl)) ?_)
 rintro _ rfl
 refine VO.ma rfl rfl rfl rfl ?_
 refine VO.nil ?_
 refine VC.sr ?_
 refine VO.mv rfl rfl rfl rfl ?_
 refine VO.val rfl rfl (OpV.neq rfl rfl rfl) ?_
 refine VO.nil ?_
 refine VC.cond rfl (fun h0b => ?_) (fun h0b => ?_)
 ·have h0 := h0b
  try simp only [qqT, qqF, qqN, qqM, qqL, qqE] at h0
  refine VC.sr ?_
  refine VO.mv rfl rfl rfl rfl ?_
  refine VO.ma rfl rfl rfl rfl ?_
  refine VO.ma rfl rfl rfl rfl ?_
  refine VO.nil ?_
  refine VC.ret ?_
  exact Exists.intro _ (And.intro (RetN.two Tryz.results141 (ResN.v rfl) (ResN.v rfl)) (by rw [totE, if_neg h0]))
 ·have h0 := h0b
  try simp only [qqT, qqF, qqN, qqM, qqL, qqE] at h0
  obtain ⟨z1, z2, z3, z4, z5⟩ := setsF_zero (s := s) (p := p) (by omega)
  refine VC.skip ?_
  refine VC.sr ?_
  refine VO.mv rfl rfl rfl rfl ?_
  refine VO.mv rfl rfl rfl rfl ?_
  refine VO.op rfl (OpE.call rfl hB rfl Tryz.call245 rfl (SpecN.spec (setup_total z2 z4 hl z3 (by decide))) ?_)
  rintro _ rfl
  refine VO.ma rfl rfl rfl rfl ?_
  refine VO.ma rfl rfl rfl rfl ?_
  refine VO.nil ?_
  refine VC.ret ?_
  exact Exists.intro _ (And.intro (RetN.two Tryz.results141 (ResN.v rfl) (ResN.v rfl)) (by rw [totE, if_pos (by omega), totalF_big z2.len z3 z4, show setsF s p = 0 by omega]))
end Go.Proofs.YtaaokimiadfidaaGreatDoor
namespace Go.Proofs.YtaaokimiadfidaaGreatDoor
open Go.RowKit
set_option linter.unusedVariables false
set_option linter.unusedSimpArgs false
def loadS : List ByteArray := [ε]
def loadP : List (List ByteArray) := [[⟨#[97]⟩], [⟨#[98]⟩]]
theorem load_sms : SmS loadS := ⟨by decide, fun i => by cases i with | zero => decide | succ i => simp [loadS]⟩
theorem load_smss : SmSS loadP := ⟨by decide, fun i => by
 match i with
 | 0 => exact ⟨by decide, fun i => by cases i with | zero => decide | succ i => simp [loadP]⟩
 | 1 => exact ⟨by decide, fun i => by cases i with | zero => decide | succ i => simp [loadP]⟩
 | i + 2 => exact SmS.nil⟩
theorem load_ok : setsF loadS loadP = 0 := by decide +kernel
theorem load_two : totE loadS loadP = 2 := by decide +kernel

end Go.Proofs.YtaaokimiadfidaaGreatDoor
namespace Go.Proofs.YtaaokimiadfidaaGreatDoor
open Go.RowKit
set_option linter.unusedVariables false
set_option linter.unusedSimpArgs false

theorem lined_flow : flowF [10, 30] [0] 2 = 0 := by decide +kernel
theorem lined_leaves : leavesF [10, 30] [0] 2 = [40, 70] := by
 rw [leavesF, if_pos lined_flow]
 have a00 : (pas [10, 30] [0] 0 0).taken = 0 := by rw [pas_taken]; simp [here]
 have b00 : (pas [10, 30] [0] 0 0).left = 10 := by rw [pas_left, a00]; simp [at']
 have a01 : (pas [10, 30] [0] 0 1).taken = 10 := by rw [pas_taken]; simp [here, b00]
 have b01 : (pas [10, 30] [0] 0 1).left = 40 := by rw [pas_left, a01]; simp [at']
 have a10 : (pas [10, 30] [0] 1 0).taken = 10 := by rw [pas_taken]; simp [here, b00]; decide
 have b10 : (pas [10, 30] [0] 1 0).left = 40 := by rw [pas_left, a10]; simp [at', b01]; decide
 have a11 : (pas [10, 30] [0] 1 1).taken = 40 := by rw [pas_taken]; simp [here, b10, b01]
 have b11 : (pas [10, 30] [0] 1 1).left = 70 := by rw [pas_left, a11]; simp [at']
 simp [leaves, List.range_succ, b01, b11]

end Go.Proofs.YtaaokimiadfidaaGreatDoor
namespace Go.Proofs.YtaaokimiadfidaaGreatDoor
open Go.RowKit
set_option linter.unusedVariables false
set_option linter.unusedSimpArgs false

theorem isSl_of_rep {w : World} {Z : Nat → Prop} {xs : List Int} {v : Value} (h : Rep w Z (avInts xs) v) : IsSl w Z v xs := by
 change Rep w Z (.im xs.length 1 fun j => avI (xs.getD j 0)) v at h
 generalize hn : xs.length = n at h
 cases h with
 | nil => exact .inl ⟨rfl, List.eq_nil_of_length_eq_zero hn⟩
 | im n sz f b off cap c e u hZ h1 h2 hb hc hr =>
  refine .inr ⟨b, off, cap, c, e, by rw [hn], hZ, by omega, h2, hb, fun i hi => ?_⟩
  show c[off + i * 1 + 0]? = some (.int .i64 xs[i])
  have k1 := hc i (by omega)
  have k2 := (hr i (by omega)).eq_v
  rw [k2] at k1
  simpa [hi] using k1
theorem rep_of_isSl {w : World} {A : Nat → Prop} {v : Value} {xs : List Int} (h : IsSl w A v xs) : Rep w A (avInts xs) v := by
 rcases h with ⟨rfl, rfl⟩ | ⟨b, off, cap, c, e, rfl, hb, hl, hm, hh, hi⟩
 ·exact .nil _ _
 ·refine .im _ 1 _ b off cap c e (fun j => .int .i64 (xs.getD j 0)) hb hl hm hh (fun j hj => ?_) fun j hj => .v _
  have : c[off + j * 1 + 0]? = some (.int .i64 (xs[j]'(by omega))) := hi j (by omega)
  have hj' : j < xs.length := by omega
  simpa [hj'] using this
theorem argsLLv {x y : AV} {u : Value} {w : World} {A : Nat → Prop} {us : Array Value} (h : Args w A [x, y, .v u] us) : ∃ v1 v2, us = #[v1, v2, u] ∧ Rep w (fun b => b < w.heap.size ∧ A b) x v1 ∧ Rep w (fun b => b < w.heap.size ∧ A b) y v2 := by
 obtain ⟨h1, h2⟩ := h
 have e2 := (h2 2 (by simp)).eq_v
 refine ⟨us.getD 0 undef, us.getD 1 undef, ?_, h2 0 (by simp), h2 1 (by simp)⟩
 apply Array.ext (by simpa using h1)
 intro i hi hi'
 simp at hi'
 rw [h1] at hi
 match i, hi' with
 | 0, _ => simp [Array.getD_eq_getD_getElem?, h1]
 | 1, _ => simp [Array.getD_eq_getD_getElem?, h1]
 | 2, _ => simpa [Array.getD_eq_getD_getElem?, h1] using e2
theorem line_Leave_S {c b : List Int} {n : Int} : SpecN Tryz.prog 87 [avInts c, avInts b, avI n] (fun y => y = .tup [avInts (leavesF c b n), avI (flowF c b n)]) := by
 intro w us ha
 obtain ⟨v1, v2, rfl, q1, q2⟩ := argsLLv ha
 refine (leave_any v1 v2 c b n _ _ w (isSl_of_rep q1) (isSl_of_rep q2)).mono ?_
 rintro e w' ⟨v, rfl, hv, hc⟩
 refine ⟨_, _, rfl, rfl, .tup _ _ rfl fun j hj => ?_, hc, trivial⟩
 match j, hj with
 | 0, _ => exact (rep_of_isSl hv).keep fun b hb hl => ⟨rfl, hl, fun h => absurd h (Nat.not_lt.2 hb)⟩
 | 1, _ => exact .v _
end Go.Proofs.YtaaokimiadfidaaGreatDoor
namespace Go.Proofs.YtaaokimiadfidaaGreatDoor
open Go.RowKit
set_option linter.unusedVariables false
set_option linter.unusedSimpArgs false
set_option maxRecDepth 100000 in
theorem rk_errs {xs : List Int} (hl : xs.length ≤ 1000000000) :
  SpecN Tryz.prog 64 [avInts xs] (fun y => y = avI (errsF xs)) := by
 refine SpecN.of_VCN Tryz.func64 rfl Tryz.ntmps64 (Nle rfl) fun w A hB => ?_
 have hnew : True := trivial
 refine VC.sr ?_
 refine VO.ma rfl rfl rfl rfl ?_
 refine VO.nil ?_
 refine VC.seq ?_
 refine VC.sr ?_
 refine VO.mv rfl rfl rfl rfl ?_
 refine VO.val rfl rfl (OpV.len_im rfl Tryz.underlying174 rfl) ?_
 refine VO.mv rfl rfl rfl rfl ?_
 refine VO.nil ?_
 refine VC.block ?_
 refine VC.loopK [(5, _), (6, _)] ⟨rfl, rfl, trivial⟩ ({q : Nat // q ≤ xs.length ∧ ∀ j, j < q → xs.getD j 0 = 0}) (fun (iZ : {q : Nat // q ≤ xs.length ∧ ∀ j, j < q → xs.getD j 0 = 0}) => match iZ with | ⟨q, hq, hn⟩ => [(7, avI (q : Int))]) (fun (iZ : {q : Nat // q ≤ xs.length ∧ ∀ j, j < q → xs.getD j 0 = 0}) => match iZ with | ⟨q, hq, hn⟩ => []) (fun (iZ : {q : Nat // q ≤ xs.length ∧ ∀ j, j < q → xs.getD j 0 = 0}) => match iZ with | ⟨q, hq, hn⟩ => 0) (fun (iZ : {q : Nat // q ≤ xs.length ∧ ∀ j, j < q → xs.getD j 0 = 0}) => match iZ with | ⟨q, hq, hn⟩ => xs.length - q) ⟨0, Nat.zero_le _, fun j hj => absurd hj (Nat.not_lt_zero j)⟩ (Le.mk hB [] ⟨rfl, rfl, rfl, trivial⟩ rfl rfl (Nat.le_refl _)) ?_
 rintro ⟨q, hq, hn⟩
 show VC _ _ _ _ ⟨[(7, avI (q : Int))] ++ [(5, _), (6, _)], [], 0⟩
 refine VC.sr ?_
 refine VO.val rfl rfl (OpV.lss rfl rfl rfl) ?_
 refine VO.nil ?_
 refine VC.seq ?_
 refine VC.cond rfl (fun aH1b => ?_) (fun aH1b => ?_)
 ·have aH1 := aH1b
  try simp only [qqT, qqF, qqN, qqM, qqL, qqE] at aH1
  refine VC.skip ?_
  refine VC.seq ?_
  refine VC.block ?_
  refine VC.sr ?_
  refine VO.val rfl rfl (OpV.indexAddr_1 rfl Tryz.underlying174 Tryz.sizeOf35 rfl rfl rfl (by omega)) ?_
  refine VO.val rfl rfl (OpV.load_at rfl hB OutW.no Tryz.isAgg35 rfl rfl) ?_
  refine VO.ma rfl rfl rfl rfl ?_
  refine VO.nil ?_
  refine VC.sr ?_
  refine VO.mv rfl rfl rfl rfl ?_
  refine VO.val rfl rfl (OpV.neq rfl rfl rfl) ?_
  refine VO.nil ?_
  refine VC.cond rfl (fun h1b => ?_) (fun h1b => ?_)
  ·have h1 := h1b
   try simp only [qqT, qqF, qqN, qqM, qqL, qqE] at h1
   refine VC.sr ?_
   refine VO.mv rfl rfl rfl rfl ?_
   refine VO.ma rfl rfl rfl rfl ?_
   refine VO.nil ?_
   refine VC.ret ?_
   exact Exists.intro _ (And.intro (RetN.one Tryz.results64 (ResN.v rfl)) (by rw [errsF_at (q := q) (by omega) hn h1]))
  ·have h1 := h1b
   try simp only [qqT, qqF, qqN, qqM, qqL, qqE] at h1
   refine VC.skip ?_
   refine VC.region ?_
   refine VO.val rfl rfl (OpV.add rfl rfl rfl (by unfold fits; omega)) ?_
   refine VO.mv rfl rfl rfl rfl ?_
   refine VO.nil ?_
   exact Exists.intro (⟨q + 1, by omega, lt_succ_cases hn ((by omega))⟩) (And.intro (Le.mk hB [] ⟨rfl, rfl, rfl, trivial⟩ rfl rfl (Nat.le_refl _)) (by first | omega | (show _ < _; omega) | (simp only []; omega)))
 ·have aH1 := aH1b
  try simp only [qqT, qqF, qqN, qqM, qqL, qqE] at aH1
  refine VC.exit ?_
  refine VC.sr ?_
  refine VO.ma rfl rfl rfl rfl ?_
  refine VO.nil ?_
  refine VC.ret ?_
  exact Exists.intro _ (And.intro (RetN.one Tryz.results64 (ResN.v rfl)) (by rw [errsF_none (fun j hj => hn j (by omega))]))
def rdL : List LookS := [⟨⟨#[98]⟩, ⟨#[99]⟩, 0, 1, true, ⟨#[109]⟩, ⟨#[110]⟩, ⟨#[114]⟩⟩]
theorem one_sz {α : Type} [Inhabited α] {f : α → ByteArray} {x : α} (h : (f x).size ≤ 1000000) (h0 : (f default).size ≤ 1000000) (i : Nat) : (f ([x].getD i default)).size ≤ 1000000 := by
 match i with
 | 0 => exact h
 | i + 1 => exact h0
theorem rdL_sm : SmLk rdL := ⟨by decide, one_sz (f := LookS.board) (by decide) (by decide), one_sz (f := LookS.name) (by decide) (by decide), one_sz (f := LookS.machine) (by decide) (by decide), one_sz (f := LookS.nozzle) (by decide) (by decide), one_sz (f := LookS.reel) (by decide) (by decide)⟩
theorem rdL_ok : millE rdL = 0 := by decide +kernel
theorem rdL_n : (millN rdL).1 = 1000000 := by decide +kernel
def rdP : List PaceS := [⟨⟨#[112]⟩, 10, []⟩]
def rdO : List OrdrS := [⟨⟨#[111]⟩, ⟨#[112]⟩, 3, 0, 5⟩]
theorem rdP_sm : SmPc rdP := ⟨by decide, one_sz (f := PaceS.product) (by decide) (by decide), fun i => by
 match i with
 | 0 => decide
 | i + 1 => show ([] : List NeedS).length ≤ _; decide, fun i j => by
 match i with
 | 0 => show (([] : List NeedS).getD j default).key.size ≤ _; simp; decide
 | i + 1 => show (([] : List NeedS).getD j default).key.size ≤ _; simp; decide⟩
theorem rdO_sm : SmOr rdO := ⟨by decide, one_sz (f := OrdrS.key) (by decide) (by decide), one_sz (f := OrdrS.product) (by decide) (by decide)⟩
theorem rd_sch : scheF rdP rdO [0] 1 0 = 0 := by decide +kernel
theorem rd_from : fromP rdP rdO [0] 1 0 0 = 1 := by decide +kernel
theorem rd_end : endP rdP rdO [0] 1 0 0 = 31 := by decide +kernel
theorem rd_times : timesR rdP rdO [0] 1 0 = [⟨1, 31⟩] := by
 rw [timesR, if_pos rd_sch]
 show [winP rdP rdO [0] 1 0 0] = _
 rw [winP, rd_from, rd_end]
theorem pace_nil {w : World} {Z : Nat → Prop} {u : Value} {a : ByteArray} {b : Int} (h : Rep w Z (.agg [avS a, avI b, .v (.slice none 0 0)]) u) : Rep w Z (avPc ⟨a, b, []⟩) u := by
 cases h with
 | agg cs us hl hr =>
  refine .agg _ us hl fun j hj => ?_
  match j, hj with
  | 0, _ => exact hr 0 (by simp)
  | 1, _ => exact hr 1 (by simp)
  | 2, _ =>
   have := hr 2 (by simp)
   show Rep w Z (.im 0 2 _) _
   rw [this.eq_v]; exact .nil _ _
set_option maxRecDepth 100000 in
set_option maxHeartbeats 4000000 in
theorem rk_ready   :
  SpecN Tryz.prog 38 [] (fun y => y = avB true) := by
 refine SpecN.of_VCN Tryz.func38 rfl Tryz.ntmps38 (Nle rfl) fun w A hB => ?_
 have hnew : True := trivial
 refine VC.sr ?_
 refine VO.ma rfl rfl rfl rfl ?_
 refine VO.nil ?_
 refine VC.sr ?_
 refine VO.val rfl rfl (OpV.build (pls := #[(0, 1), (1, 1), (2, 1), (3, 1), (4, 1)]) rfl Tryz.zeroValue187 Tryz.underlying187 (fun w => by kernel_rfl) rfl rfl) ?_
 refine VO.op rfl (OpE.buildSlice (zc := #[.string ⟨#[]⟩, .string ⟨#[]⟩, .int .i64 0, .int .i64 0, .int .i64 0]) rfl hB rfl Tryz.underlying122 Tryz.sizeOf187 Tryz.zeroValue187 (by decide) (by decide) (by kernel_rfl) rfl rfl ?_)
 refine VO.le _ (Le.recast (t := 13) (y := avL panL) rfl (fun w Z u h => Rep.rowL (xs := panL) rfl h)) ?_
 refine VO.val rfl rfl (OpV.build (pls := #[(0, 1), (1, 1), (2, 1), (3, 1)]) rfl Tryz.zeroValue124 Tryz.underlying124 (fun w => by kernel_rfl) rfl rfl) ?_
 refine VO.op rfl (OpE.call rfl hB rfl Tryz.call83 rfl (SpecN.spec (panel_Needs (p := panP) panP_sm)) ?_)
 rintro _ rfl
 refine VO.le _ (Le.recast (t := 15) (y := .tup [avL ([⟨⟨#[99, 97, 112]⟩, 1⟩] : List NeedS), avI 0]) rfl (fun w Z u h => by rw [← panP_needs, ← panP_ok]; exact h)) ?_
 refine VO.mv rfl rfl rfl rfl ?_
 refine VO.val rfl rfl (OpV.extract rfl rfl rfl) ?_
 refine VO.val rfl rfl (OpV.extract rfl rfl rfl) ?_
 refine VO.ma rfl rfl rfl rfl ?_
 refine VO.ma rfl rfl rfl rfl ?_
 refine VO.nil ?_
 refine VC.sr ?_
 refine VO.op rfl (OpE.buildSlice (zc := #[.string ⟨#[]⟩]) rfl hB rfl Tryz.underlying67 Tryz.sizeOf9 Tryz.zeroValue9 (by decide) (by decide) (by kernel_rfl) rfl rfl ?_)
 refine VO.le _ (Le.recast (t := 19) (y := avStrs loadS) rfl (fun w Z u h => Rep.strs (xs := loadS) rfl h)) ?_
 refine VO.op rfl (OpE.buildSlice (zc := #[.string ⟨#[]⟩]) rfl hB rfl Tryz.underlying67 Tryz.sizeOf9 Tryz.zeroValue9 (by decide) (by decide) (by kernel_rfl) rfl rfl ?_)
 refine VO.le _ (Le.recast (t := 20) (y := avStrs [⟨#[97]⟩]) rfl (fun w Z u h => Rep.strs (xs := [⟨#[97]⟩]) rfl h)) ?_
 refine VO.op rfl (OpE.buildSlice (zc := #[.string ⟨#[]⟩]) rfl hB rfl Tryz.underlying67 Tryz.sizeOf9 Tryz.zeroValue9 (by decide) (by decide) (by kernel_rfl) rfl rfl ?_)
 refine VO.le _ (Le.recast (t := 21) (y := avStrs [⟨#[98]⟩]) rfl (fun w Z u h => Rep.strs (xs := [⟨#[98]⟩]) rfl h)) ?_
 refine VO.op rfl (OpE.buildSlice (zc := #[.slice none 0 0, .slice none 0 0]) rfl hB rfl Tryz.underlying61 Tryz.sizeOf67 Tryz.zeroValue67 (by decide) (by decide) (by kernel_rfl) rfl rfl ?_)
 refine VO.le _ (Le.recast (t := 22) (y := avM loadP) rfl (fun w Z u h => Rep.listM (xs := loadP) rfl h)) ?_
 refine VO.op rfl (OpE.call rfl hB rfl Tryz.call141 rfl (SpecN.spec (setup_Total load_sms load_smss)) ?_)
 rintro _ rfl
 refine VO.le _ (Le.recast (t := 23) (y := .tup [avI 2, avI 0]) rfl (fun w Z u h => by rw [load_two, load_ok] at h; exact h)) ?_
 refine VO.mv rfl rfl rfl rfl ?_
 refine VO.val rfl rfl (OpV.extract rfl rfl rfl) ?_
 refine VO.val rfl rfl (OpV.extract rfl rfl rfl) ?_
 refine VO.ma rfl rfl rfl rfl ?_
 refine VO.ma rfl rfl rfl rfl ?_
 refine VO.nil ?_
 refine VC.sr ?_
 refine VO.op rfl (OpE.buildSlice (zc := #[.int .i64 0, .int .i64 0]) rfl hB rfl Tryz.underlying22 Tryz.sizeOf3 Tryz.zeroValue3 (by decide) (by decide) (by kernel_rfl) rfl rfl ?_)
 refine VO.le _ (Le.lits (t := 27) (xs := [10, 30]) rfl rfl) ?_
 refine VO.op rfl (OpE.buildSlice (zc := #[.int .i64 0]) rfl hB rfl Tryz.underlying22 Tryz.sizeOf3 Tryz.zeroValue3 (by decide) (by decide) (by kernel_rfl) rfl rfl ?_)
 refine VO.le _ (Le.lits (t := 28) (xs := [0]) rfl rfl) ?_
 refine VO.op rfl (OpE.call rfl hB rfl Tryz.call87 rfl (SpecN.spec (line_Leave_S)) ?_)
 rintro _ rfl
 refine VO.le _ (Le.recast (t := 29) (y := .tup [avInts [40, 70], avI 0]) rfl (fun w Z u h => by rw [lined_leaves, lined_flow] at h; exact h)) ?_
 refine VO.mv rfl rfl rfl rfl ?_
 refine VO.val rfl rfl (OpV.extract rfl rfl rfl) ?_
 refine VO.val rfl rfl (OpV.extract rfl rfl rfl) ?_
 refine VO.ma rfl rfl rfl rfl ?_
 refine VO.ma rfl rfl rfl rfl ?_
 refine VO.nil ?_
 refine VC.sr ?_
 refine VO.val rfl rfl (OpV.build (pls := #[(0, 1), (1, 1), (2, 1), (3, 1), (4, 1), (5, 1), (6, 1), (7, 1)]) rfl Tryz.zeroValue33 Tryz.underlying33 (fun w => by kernel_rfl) rfl rfl) ?_
 refine VO.op rfl (OpE.buildSlice (zc := #[.string ⟨#[]⟩, .string ⟨#[]⟩, .int .i64 0, .int .i64 0, .bool false, .string ⟨#[]⟩, .string ⟨#[]⟩, .string ⟨#[]⟩]) rfl hB rfl Tryz.underlying26 Tryz.sizeOf33 Tryz.zeroValue33 (by decide) (by decide) (by kernel_rfl) rfl rfl ?_)
 refine VO.le _ (Le.recast (t := 34) (y := avL rdL) rfl (fun w Z u h => Rep.rowL (xs := rdL) rfl h)) ?_
 refine VO.op rfl (OpE.call rfl hB rfl Tryz.call137 rfl (SpecN.spec (inspect_Million rdL_sm)) ?_)
 rintro _ rfl
 refine VO.le _ (Le.recast (t := 35) (y := .tup [.agg [avI 1000000, avI ((millN rdL).2 : Int)], avI 0]) rfl (fun w Z u h => by rw [rdL_n, rdL_ok] at h; exact h)) ?_
 refine VO.mv rfl rfl rfl rfl ?_
 refine VO.val rfl rfl (OpV.extract rfl rfl rfl) ?_
 refine VO.val rfl rfl (OpV.extract rfl rfl rfl) ?_
 refine VO.op rfl (OpE.alloc rfl hB rfl Tryz.zeroValue39 rfl ?_)
 intro g7
 refine VO.op rfl (OpE.store (i := 0) rfl hB rfl Tryz.sizeOf39 rfl rfl rfl rfl rfl rfl (Nle rfl) trivial ?_)
 refine VO.ma rfl rfl rfl rfl ?_
 refine VO.nil ?_
 refine VC.sr ?_
 refine VO.val rfl rfl (OpV.build (pls := #[(0, 1), (1, 1), (2, 1)]) rfl Tryz.zeroValue137 Tryz.underlying137 (fun w => by kernel_rfl) rfl rfl) ?_
 refine VO.le _ (Le.recast (t := 39) (y := avPc ⟨⟨#[112]⟩, 10, []⟩) rfl (fun w Z u h => pace_nil h)) ?_
 refine VO.op rfl (OpE.buildSlice (zc := #[.string ⟨#[]⟩, .int .i64 0, .slice none 0 0]) rfl hB rfl Tryz.underlying73 Tryz.sizeOf137 Tryz.zeroValue137 (by decide) (by decide) (by kernel_rfl) rfl rfl ?_)
 refine VO.le _ (Le.recast (t := 40) (y := avL rdP) rfl (fun w Z u h => Rep.rowL (xs := rdP) rfl h)) ?_
 refine VO.val rfl rfl (OpV.build (pls := #[(0, 1), (1, 1), (2, 1), (3, 1), (4, 1)]) rfl Tryz.zeroValue89 Tryz.underlying89 (fun w => by kernel_rfl) rfl rfl) ?_
 refine VO.op rfl (OpE.buildSlice (zc := #[.string ⟨#[]⟩, .string ⟨#[]⟩, .int .i64 0, .int .i64 0, .int .i64 0]) rfl hB rfl Tryz.underlying75 Tryz.sizeOf89 Tryz.zeroValue89 (by decide) (by decide) (by kernel_rfl) rfl rfl ?_)
 refine VO.le _ (Le.recast (t := 42) (y := avL rdO) rfl (fun w Z u h => Rep.rowL (xs := rdO) rfl h)) ?_
 refine VO.op rfl (OpE.buildSlice (zc := #[.int .i64 0]) rfl hB rfl Tryz.underlying22 Tryz.sizeOf3 Tryz.zeroValue3 (by decide) (by decide) (by kernel_rfl) rfl rfl ?_)
 refine VO.le _ (Le.lits (t := 43) (xs := [0]) rfl rfl) ?_
 refine VO.op rfl (OpE.call rfl hB rfl Tryz.call89 rfl (SpecN.spec (plan_Times rdP_sm rdO_sm (by decide))) ?_)
 rintro _ rfl
 refine VO.le _ (Le.recast (t := 44) (y := .tup [avL ([⟨1, 31⟩] : List WinS), avI 0]) rfl (fun w Z u h => by rw [rd_times, rd_sch] at h; exact h)) ?_
 refine VO.mv rfl rfl rfl rfl ?_
 refine VO.val rfl rfl (OpV.extract rfl rfl rfl) ?_
 refine VO.val rfl rfl (OpV.extract rfl rfl rfl) ?_
 refine VO.ma rfl rfl rfl rfl ?_
 refine VO.ma rfl rfl rfl rfl ?_
 refine VO.nil ?_
 refine VC.sr ?_
 refine VO.mv rfl rfl rfl rfl ?_
 refine VO.mv rfl rfl rfl rfl ?_
 refine VO.mv rfl rfl rfl rfl ?_
 refine VO.mv rfl rfl rfl rfl ?_
 refine VO.mv rfl rfl rfl rfl ?_
 refine VO.op rfl (OpE.buildSlice (zc := #[.int .i64 0, .int .i64 0, .int .i64 0, .int .i64 0, .int .i64 0]) rfl hB rfl Tryz.underlying174 Tryz.sizeOf35 Tryz.zeroValue35 (by decide) (by decide) (by kernel_rfl) rfl rfl ?_)
 refine VO.le _ (Le.lits (t := 52) (xs := [0, 0, 0, 0, 0]) rfl rfl) ?_
 refine VO.op rfl (OpE.call rfl hB rfl Tryz.call64 rfl (SpecN.spec (rk_errs (by decide))) ?_)
 rintro _ rfl
 refine VO.val rfl rfl (OpV.eql rfl rfl rfl) ?_
 refine VO.le _ (Le.boolT (t := 54) rfl (decide_eq_true rfl)) ?_
 refine VO.mv rfl rfl rfl rfl ?_
 refine VO.opY rfl rfl rfl rfl rfl ?_
 refine OpE.val (W := NoB) (OpV.move (.inl rfl) rfl) rfl ?_
 refine VO.opY rfl rfl rfl rfl rfl ?_
 refine OpE.val (W := NoB) (OpV.len_im rfl Tryz.underlying77 rfl) rfl ?_
 refine VO.opY rfl rfl rfl rfl rfl ?_
 refine OpE.val (W := NoB) (OpV.eql rfl rfl rfl) rfl ?_
 refine VO.le _ (Le.boolT (t := 58) rfl (decide_eq_true rfl)) ?_
 refine VO.val rfl rfl (OpV.pickT rfl rfl rfl rfl rfl) ?_
 refine VO.mv rfl rfl rfl rfl ?_
 refine VO.opY rfl rfl rfl rfl rfl ?_
 refine OpE.val (W := NoB) (OpV.move (.inl rfl) rfl) rfl ?_
 refine VO.opY rfl rfl rfl rfl rfl ?_
 refine OpE.val (W := NoB) (OpV.eql rfl rfl rfl) rfl ?_
 refine VO.le _ (Le.boolT (t := 62) rfl (decide_eq_true rfl)) ?_
 refine VO.val rfl rfl (OpV.pickT rfl rfl rfl rfl rfl) ?_
 refine VO.mv rfl rfl rfl rfl ?_
 refine VO.opY rfl rfl rfl rfl rfl ?_
 refine OpE.val (W := NoB) (OpV.move (.inl rfl) rfl) rfl ?_
 refine VO.opY rfl rfl rfl rfl rfl ?_
 refine OpE.val (W := NoB) (OpV.len_im rfl Tryz.underlying22 rfl) rfl ?_
 refine VO.opY rfl rfl rfl rfl rfl ?_
 refine OpE.val (W := NoB) (OpV.eql rfl rfl rfl) rfl ?_
 refine VO.le _ (Le.boolT (t := 67) rfl (decide_eq_true rfl)) ?_
 refine VO.val rfl rfl (OpV.pickT rfl rfl rfl rfl rfl) ?_
 refine VO.mv rfl rfl rfl rfl ?_
 refine VO.opY rfl rfl rfl rfl rfl ?_
 refine OpE.val (W := NoB) (OpV.fieldAddrO 0 rfl Tryz.underlying39 rfl rfl Tryz.sizeOf3 rfl) rfl ?_
 refine VO.opY rfl rfl rfl rfl rfl ?_
 refine OpE.val (W := NoB) (OpV.load_own (i := 0) rfl hB Tryz.isAgg3 rfl rfl rfl (fun h => h)) rfl ?_
 refine VO.opY rfl rfl rfl rfl rfl ?_
 refine OpE.val (W := NoB) (OpV.eql rfl rfl rfl) rfl ?_
 refine VO.le _ (Le.boolT (t := 72) rfl (decide_eq_true rfl)) ?_
 refine VO.val rfl rfl (OpV.pickT rfl rfl rfl rfl rfl) ?_
 refine VO.mv rfl rfl rfl rfl ?_
 refine VO.opY rfl rfl rfl rfl rfl ?_
 refine OpE.val (W := NoB) (OpV.move (.inl rfl) rfl) rfl ?_
 refine VO.opY rfl rfl rfl rfl rfl ?_
 refine OpE.val (W := NoB) (OpV.len_im rfl Tryz.underlying133 rfl) rfl ?_
 refine VO.opY rfl rfl rfl rfl rfl ?_
 refine OpE.val (W := NoB) (OpV.eql rfl rfl rfl) rfl ?_
 refine VO.le _ (Le.boolT (t := 77) rfl (decide_eq_true rfl)) ?_
 refine VO.val rfl rfl (OpV.pickT rfl rfl rfl rfl rfl) ?_
 refine VO.mv rfl rfl rfl rfl ?_
 refine VO.opY rfl rfl rfl rfl rfl ?_
 refine OpE.val (W := NoB) (OpV.move (.inl rfl) rfl) rfl ?_
 refine VO.opY rfl rfl rfl rfl rfl ?_
 refine OpE.val (W := NoB) (OpV.indexAddr_E rfl Tryz.underlying133 Tryz.sizeOf139 rfl rfl rfl (by show 0 < 1; decide)) rfl ?_
 refine VO.opY rfl rfl rfl rfl rfl ?_
 refine OpE.val (W := NoB) (OpV.fieldAddr_atO 1 rfl Tryz.underlying139 rfl rfl Tryz.sizeOf3 rfl rfl) rfl ?_
 refine VO.opY rfl rfl rfl rfl rfl ?_
 refine OpE.val (W := NoB) (OpV.load_at rfl hB OutW.no Tryz.isAgg3 rfl rfl) rfl ?_
 refine VO.opY rfl rfl rfl rfl rfl ?_
 refine OpE.val (W := NoB) (OpV.eql rfl rfl rfl) rfl ?_
 refine VO.le _ (Le.boolT (t := 84) rfl (decide_eq_true rfl)) ?_
 refine VO.val rfl rfl (OpV.pickT rfl rfl rfl rfl rfl) ?_
 refine VO.ma rfl rfl rfl rfl ?_
 refine VO.nil ?_
 refine VC.ret ?_
 exact Exists.intro _ (And.intro (RetN.one Tryz.results38 (ResN.v rfl)) (rfl))
end Go.Proofs.YtaaokimiadfidaaGreatDoor
namespace Go.Proofs.YtaaokimiadfidaaGreatDoor
open Go.RowKit
set_option linter.unusedVariables false
set_option linter.unusedSimpArgs false
theorem Le.boolF {B : Bs} {s : St'} {t : Nat} {b : Bool} (ht : look s.sl t = some (avB b)) (hb : b = false) : Le B s ⟨(t, avB false) :: s.sl, s.hp, s.k⟩ := Le.recast ht fun w Z u h => by subst hb; exact h
end Go.Proofs.YtaaokimiadfidaaGreatDoor
namespace Go.Proofs.YtaaokimiadfidaaGreatDoor
open Go.RowKit
set_option linter.unusedVariables false
set_option linter.unusedSimpArgs false
section
variable {ms : List Mach} {ns : List NeedS}
theorem errs4 (e : Int) : errsF [e, e, e, e] = e := by
 by_cases h : e = 0
 ·rw [h]; rfl
 ·exact errsF_at (q := 0) (by simp) (fun j hj => absurd hj (by omega)) h
theorem errs_flt : errsF [machF ms, needsF ns 1 1000] = faultF ms ns := by
 rw [errs2, faultF]
 by_cases h : machF ms = 0
 ·rw [if_pos h, if_neg (by omega)]
 ·rw [if_neg h, if_pos h]
theorem balE_12 (h : ns.length ≤ 12) : balE ms ns = faultF ms ns := by
 unfold balE
 split
 ·rfl
 ·rename_i h1; rw [if_neg (by omega)]; omega
structure BalY (ms : List Mach) (ns : List NeedS) (P : List Int) (X : Int) : Prop where
 len : P.length ≤ 12
 line : lineF ms ns P = 0
 slow : slowC ms ns P = X
 bet : bet3 ms ns P = (0, 0, false)
 bnd : bndF ms ns ≤ X
 nob : nobL ms ns = []
theorem bal_yes (h0 : faultF ms ns = 0) (h12 : ns.length ≤ 12) (h : balOk ms ns = true) : BalY ms ns (balL ms ns) (balV ms ns) := by
 obtain ⟨hm, hn⟩ := faultF_0 h0
 have hM := MnOk.mk' hm hn
 have hlen := machF_len hm
 have h3 : bstV ms ns ns.length [] < neverC := by
  by_cases h3 : bstV ms ns ns.length [] < neverC
  ·exact h3
  ·rw [(bal_3 h0 h12 h3).2.1] at h; cases h
 obtain ⟨g1, g2⟩ := grd_ok hM h3
 obtain ⟨_, _, b3, b4⟩ := bal_4 h0 h12 h3
 rw [b3, b4]
 have hl : lineF ms ns (grd ms ns ns.length []) = 0 := by rw [lineF, if_neg (by omega)]; exact (planF_valid hm).2 g1
 refine ⟨by rw [g1.len]; exact h12, hl, ?_, ?_, ?_, nobL_nil g1⟩
 ·rw [slowC_mx hM hlen.1 g1.len, g2]
 ·rw [bet3, if_pos hl, bet_none hm hM g1 g2]
 ·rw [← g2]; exact bnd_le hM hlen.1 g1
theorem bal_fst (h0 : faultF ms ns = 0) (h12 : ns.length ≤ 12) (h : balOk ms ns = false) : fstK ms ns = false := by
 obtain ⟨hm, hn⟩ := faultF_0 h0
 have hM := MnOk.mk' hm hn
 cases he : fstR ms ns with
 | none => exact (fst_2 he).2
 | some r =>
  have h3 := bst_valid hM (fstR_valid hm he)
  rw [(bal_4 h0 h12 h3).2.1] at h; cases h
theorem fst_yes (h0 : faultF ms ns = 0) (h12 : ns.length ≤ 12) (h : fstK ms ns = true) : (fstP ms ns).length ≤ 12 ∧ lineF ms ns (fstP ms ns) = 0 ∧ balV ms ns ≤ slowC ms ns (fstP ms ns) := by
 obtain ⟨hm, hn⟩ := faultF_0 h0
 have hM := MnOk.mk' hm hn
 have hlen := machF_len hm
 cases he : fstR ms ns with
 | none => rw [(fst_2 he).2] at h; cases h
 | some r =>
  have hv := fstR_valid hm he
  rw [(fst_3 h0 he).1]
  refine ⟨by rw [hv.len]; exact h12, by rw [lineF, if_neg (by omega)]; exact (planF_valid hm).2 hv, ?_⟩
  rw [slowC_mx hM hlen.1 hv.len, (bal_4 h0 h12 (bst_valid hM hv)).2.2.2]
  exact bst_least hM hv
end
set_option maxRecDepth 100000 in
set_option maxHeartbeats 40000000 in
theorem balLeast_any (a0 : Option Addr) (cap0 : Nat) (L : List Int) (w : World) (hin : Inp w a0 L) :
  Calls Tryz.prog 8 #[.slice a0 L.length cap0] w fun e w' => e = .returned (.bool true) ∧ Chg NoB w w' := by
 refine law_calls Tryz.func8 rfl Tryz.ntmps8 (Nle rfl) Tryz.results8 ?_
 have hB := B0.ok w (fun _ => True) 143
 have hnew : True := trivial
 refine VC.sr ?_
 refine VO.ma rfl rfl rfl rfl ?_
 refine VO.nil ?_
 refine VC.sr ?_
 refine VO.mv rfl rfl rfl rfl ?_
 refine VO.val rfl rfl (OpV.build (pls := #[(0, 1), (1, 1)]) rfl Tryz.zeroValue25 Tryz.underlying25 (fun w => by kernel_rfl) rfl rfl) ?_
 refine VO.op rfl (OpE.box rfl hB rfl rfl rfl ?_)
 intro g
 refine VO.ma rfl rfl rfl rfl ?_
 refine VO.nil ?_
 refine VC.stream (i := 0) (sl := [(3, sp g)]) (by exact rfl) (by exact rfl) hin (by exact ⟨rfl, trivial⟩) (fun p hp => by simp at hp; subst hp; exact ⟨_, rfl⟩) (fun w1 hge hB => ?_)
 refine VC.sr ?_
 refine VO.mv rfl rfl rfl rfl ?_
 refine VO.op rfl (OpE.callT' (0) rfl rfl hB rfl Tryz.call66 rfl (machines_T) (by omega) ?_)
 rintro _ ⟨ms, hms, rfl⟩
 refine VO.mv rfl rfl rfl rfl ?_
 refine VO.op rfl (OpE.callT' (0 + 60) rfl rfl hB rfl Tryz.call67 rfl (needList_T) (by omega) ?_)
 rintro _ ⟨ns, hns, rfl⟩
 refine VO.ma rfl rfl rfl rfl ?_
 refine VO.ma rfl rfl rfl rfl ?_
 refine VO.nil ?_
 refine VC.seq ?_
 have hn12 : ns.length ≤ 12 := by omega
 obtain ⟨P, hP⟩ : ∃ P, balL ms ns = P := ⟨_, rfl⟩
 obtain ⟨X, hX⟩ : ∃ X, balV ms ns = X := ⟨_, rfl⟩
 obtain ⟨Q, hQ⟩ : ∃ Q, fstP ms ns = Q := ⟨_, rfl⟩
 refine VC.le ⟨[(4, _), (5, _)], [], 0 + 60 + 20⟩ (Le.mk hB [] ⟨rfl, rfl, trivial⟩ rfl rfl (Nat.le_refl _)) ?_
 refine VC.region ?_
 refine VO.mv rfl rfl rfl rfl ?_
 refine VO.mv rfl rfl rfl rfl ?_
 refine VO.op rfl (OpE.call rfl hB rfl Tryz.call69 rfl (line_Balance hms.1 hns.1) ?_)
 rintro _ rfl
 refine VO.le _ (Le.recast (t := 37) (y := .tup [avInts P, avI X, avB (balOk ms ns), avI (faultF ms ns)]) rfl (fun w Z u h => by rw [← hP, ← hX, ← balE_12 hn12]; exact h)) ?_
 refine VO.mv rfl rfl rfl rfl ?_
 refine VO.val rfl rfl (OpV.extract rfl rfl rfl) ?_
 refine VO.val rfl rfl (OpV.extract rfl rfl rfl) ?_
 refine VO.val rfl rfl (OpV.extract rfl rfl rfl) ?_
 refine VO.val rfl rfl (OpV.extract rfl rfl rfl) ?_
 refine VO.ma rfl rfl rfl rfl ?_
 refine VO.ma rfl rfl rfl rfl ?_
 refine VO.ma rfl rfl rfl rfl ?_
 refine VO.ma rfl rfl rfl rfl ?_
 refine VO.nil ?_
 refine VC.sr ?_
 refine VO.mv rfl rfl rfl rfl ?_
 refine VO.mv rfl rfl rfl rfl ?_
 refine VO.op rfl (OpE.call rfl hB rfl Tryz.call70 rfl (line_First hms.1 hns.1 hn12) ?_)
 rintro _ rfl
 refine VO.le _ (Le.recast (t := 45) (y := .tup [avInts Q, avB (fstK ms ns), avI (faultF ms ns)]) rfl (fun w Z u h => by rw [← hQ]; exact h)) ?_
 refine VO.mv rfl rfl rfl rfl ?_
 refine VO.val rfl rfl (OpV.extract rfl rfl rfl) ?_
 refine VO.val rfl rfl (OpV.extract rfl rfl rfl) ?_
 refine VO.val rfl rfl (OpV.extract rfl rfl rfl) ?_
 refine VO.ma rfl rfl rfl rfl ?_
 refine VO.ma rfl rfl rfl rfl ?_
 refine VO.ma rfl rfl rfl rfl ?_
 refine VO.nil ?_
 refine VC.sr ?_
 refine VO.mv rfl rfl rfl rfl ?_
 refine VO.mv rfl rfl rfl rfl ?_
 refine VO.op rfl (OpE.call rfl hB rfl Tryz.call71 rfl (SpecN.spec (line_Bound hms.1 hns.1)) ?_)
 rintro _ rfl
 refine VO.mv rfl rfl rfl rfl ?_
 refine VO.val rfl rfl (OpV.extract rfl rfl rfl) ?_
 refine VO.val rfl rfl (OpV.extract rfl rfl rfl) ?_
 refine VO.ma rfl rfl rfl rfl ?_
 refine VO.ma rfl rfl rfl rfl ?_
 refine VO.nil ?_
 refine VC.sr ?_
 refine VO.mv rfl rfl rfl rfl ?_
 refine VO.mv rfl rfl rfl rfl ?_
 refine VO.op rfl (OpE.call rfl hB rfl Tryz.call72 rfl (SpecN.spec (line_Nobody hms.1 hns.1)) ?_)
 rintro _ rfl
 refine VO.mv rfl rfl rfl rfl ?_
 refine VO.val rfl rfl (OpV.extract rfl rfl rfl) ?_
 refine VO.val rfl rfl (OpV.extract rfl rfl rfl) ?_
 refine VO.ma rfl rfl rfl rfl ?_
 refine VO.ma rfl rfl rfl rfl ?_
 refine VO.nil ?_
 refine VC.seq ?_
 refine VC.sr ?_
 refine VO.mv rfl rfl rfl rfl ?_
 refine VO.mv rfl rfl rfl rfl ?_
 refine VO.mv rfl rfl rfl rfl ?_
 refine VO.mv rfl rfl rfl rfl ?_
 refine VO.op rfl (OpE.buildSlice (zc := #[.int .i64 0, .int .i64 0, .int .i64 0, .int .i64 0]) rfl hB rfl Tryz.underlying174 Tryz.sizeOf35 Tryz.zeroValue35 (by decide) (by decide) (by kernel_rfl) rfl rfl ?_)
 refine VO.le _ (Le.lits (t := 65) (xs := [faultF ms ns, faultF ms ns, faultF ms ns, faultF ms ns]) rfl rfl) ?_
 refine VO.op rfl (OpE.call rfl hB rfl Tryz.call64 rfl (SpecN.spec (rk_errs (by simp))) ?_)
 rintro _ rfl
 refine VO.le _ (Le.recast (t := 66) (y := avI (faultF ms ns)) rfl (fun w Z u h => by rw [errs4] at h; exact h)) ?_
 refine VO.val rfl rfl (OpV.neq rfl rfl rfl) ?_
 refine VO.nil ?_
 refine VC.cond rfl (fun h0b => ?_) (fun h0b => ?_)
 ·have h0 := h0b
  try simp only [qqT, qqF, qqN, qqM, qqL, qqE] at h0
  refine VC.sr ?_
  refine VO.mv rfl rfl rfl rfl ?_
  refine VO.op rfl (OpE.call rfl hB rfl Tryz.call73 rfl (SpecN.spec (rf_MachinesFault hms.1.l hms.1.k hms.1.c hms.1.s)) ?_)
  rintro _ rfl
  refine VO.mv rfl rfl rfl rfl ?_
  refine VO.op rfl (OpE.call rfl hB rfl Tryz.call74 rfl (SpecN.spec (rf_NeedsFault hns.1.l hns.1.k)) ?_)
  rintro _ rfl
  refine VO.op rfl (OpE.buildSlice (zc := #[.int .i64 0, .int .i64 0]) rfl hB rfl Tryz.underlying174 Tryz.sizeOf35 Tryz.zeroValue35 (by decide) (by decide) (by kernel_rfl) rfl rfl ?_)
  refine VO.le _ (Le.lits (t := 72) (xs := [machF ms, needsF ns 1 1000]) rfl rfl) ?_
  refine VO.op rfl (OpE.call rfl hB rfl Tryz.call64 rfl (SpecN.spec (rk_errs (by simp))) ?_)
  rintro _ rfl
  refine VO.le _ (Le.recast (t := 73) (y := avI (faultF ms ns)) rfl (fun w Z u h => by rw [errs_flt] at h; exact h)) ?_
  refine VO.mv rfl rfl rfl rfl ?_
  refine VO.val rfl rfl (OpV.eql rfl rfl rfl) ?_
  refine VO.le _ (Le.boolT (t := 75) rfl (decide_eq_true rfl)) ?_
  refine VO.mv rfl rfl rfl rfl ?_
  refine VO.opY rfl rfl rfl rfl rfl ?_
  refine OpE.call rfl hB rfl Tryz.call38 rfl (SpecN.spec (rk_ready)) ?_
  rintro _ rfl
  refine VO.val rfl rfl (OpV.pickT rfl rfl rfl rfl rfl) ?_
  refine VO.ma rfl rfl rfl rfl ?_
  refine VO.nil ?_
  refine VC.ret ?_
  exact And.intro rfl rfl
 ·have h0 := h0b
  try simp only [qqT, qqF, qqN, qqM, qqL, qqE] at h0
  have hf0 : faultF ms ns = 0 := by omega
  refine VC.skip ?_
  refine VC.seq ?_
  refine VC.sr ?_
  refine VO.mv rfl rfl rfl rfl ?_
  refine VO.val rfl rfl (OpV.not rfl rfl) ?_
  refine VO.nil ?_
  refine VC.cond rfl (fun h1b => ?_) (fun h1b => ?_)
  ·have h1 := h1b
   try simp only [qqT, qqF, qqN, qqM, qqL, qqE] at h1
   have hk := bal_fst hf0 hn12 (by simpa using h1)
   refine VC.sr ?_
   refine VO.mv rfl rfl rfl rfl ?_
   refine VO.val rfl rfl (OpV.not rfl rfl) ?_
   refine VO.le _ (Le.boolT (t := 82) rfl (by rw [hk]; rfl)) ?_
   refine VO.mv rfl rfl rfl rfl ?_
   refine VO.opY rfl rfl rfl rfl rfl ?_
   refine OpE.call rfl hB rfl Tryz.call38 rfl (SpecN.spec (rk_ready)) ?_
   rintro _ rfl
   refine VO.val rfl rfl (OpV.pickT rfl rfl rfl rfl rfl) ?_
   refine VO.ma rfl rfl rfl rfl ?_
   refine VO.nil ?_
   refine VC.ret ?_
   exact And.intro rfl rfl
  ·have h1 := h1b
   try simp only [qqT, qqF, qqN, qqM, qqL, qqE] at h1
   have hy := bal_yes hf0 hn12 (by simpa using h1)
   rw [hP, hX] at hy
   obtain ⟨y1, y2, y3, y4, y5, y6⟩ := hy
   refine VC.skip ?_
   refine VC.sr ?_
   refine VO.mv rfl rfl rfl rfl ?_
   refine VO.mv rfl rfl rfl rfl ?_
   refine VO.mv rfl rfl rfl rfl ?_
   refine VO.op rfl (OpE.call rfl hB rfl Tryz.call80 rfl (SpecN.spec (line_Slowest hms.1 hns.1 (by omega))) ?_)
   rintro _ rfl
   refine VO.le _ (Le.recast (t := 90) (y := .tup [avI (slowI ms ns P), avI X, avI 0]) rfl (fun w Z u h => by rw [y2, if_pos rfl, if_pos rfl, y3] at h; exact h)) ?_
   refine VO.mv rfl rfl rfl rfl ?_
   refine VO.val rfl rfl (OpV.extract rfl rfl rfl) ?_
   refine VO.val rfl rfl (OpV.extract rfl rfl rfl) ?_
   refine VO.val rfl rfl (OpV.extract rfl rfl rfl) ?_
   refine VO.ma rfl rfl rfl rfl ?_
   refine VO.ma rfl rfl rfl rfl ?_
   refine VO.ma rfl rfl rfl rfl ?_
   refine VO.nil ?_
   refine VC.sr ?_
   refine VO.mv rfl rfl rfl rfl ?_
   refine VO.mv rfl rfl rfl rfl ?_
   refine VO.mv rfl rfl rfl rfl ?_
   refine VO.op rfl (OpE.call rfl hB rfl Tryz.call81 rfl (SpecN.spec (line_Better hms.1 hns.1 (by omega))) ?_)
   rintro _ rfl
   refine VO.le _ (Le.recast (t := 98) (y := .tup [avI 0, avI 0, avB false, avI 0]) rfl (fun w Z u h => by rw [y4, y2] at h; exact h)) ?_
   refine VO.mv rfl rfl rfl rfl ?_
   refine VO.val rfl rfl (OpV.extract rfl rfl rfl) ?_
   refine VO.val rfl rfl (OpV.extract rfl rfl rfl) ?_
   refine VO.val rfl rfl (OpV.extract rfl rfl rfl) ?_
   refine VO.val rfl rfl (OpV.extract rfl rfl rfl) ?_
   refine VO.ma rfl rfl rfl rfl ?_
   refine VO.ma rfl rfl rfl rfl ?_
   refine VO.ma rfl rfl rfl rfl ?_
   refine VO.ma rfl rfl rfl rfl ?_
   refine VO.nil ?_
   refine VC.seq ?_
   refine VC.sr ?_
   refine VO.mv rfl rfl rfl rfl ?_
   refine VO.mv rfl rfl rfl rfl ?_
   refine VO.op rfl (OpE.buildSlice (zc := #[.int .i64 0, .int .i64 0]) rfl hB rfl Tryz.underlying174 Tryz.sizeOf35 Tryz.zeroValue35 (by decide) (by decide) (by kernel_rfl) rfl rfl ?_)
   refine VO.le _ (Le.lits (t := 105) (xs := [0, 0]) rfl rfl) ?_
   refine VO.op rfl (OpE.call rfl hB rfl Tryz.call64 rfl (SpecN.spec (rk_errs (by simp))) ?_)
   rintro _ rfl
   refine VO.val rfl rfl (OpV.neq rfl rfl rfl) ?_
   refine VO.le _ (Le.boolF (t := 107) rfl (decide_eq_false (by decide))) ?_
   refine VO.mv rfl rfl rfl rfl ?_
   refine VO.opY rfl rfl rfl rfl rfl ?_
   refine OpE.val (W := NoB) (OpV.move (.inl rfl) rfl) rfl ?_
   refine VO.opY rfl rfl rfl rfl rfl ?_
   refine OpE.val (W := NoB) (OpV.move (.inl rfl) rfl) rfl ?_
   refine VO.opY rfl rfl rfl rfl rfl ?_
   refine OpE.val (W := NoB) (OpV.neq rfl rfl rfl) rfl ?_
   refine VO.le _ (Le.boolF (t := 111) rfl (decide_eq_false (by simp))) ?_
   refine VO.val rfl rfl (OpV.pickF rfl rfl rfl rfl rfl) ?_
   refine VO.mv rfl rfl rfl rfl ?_
   refine VO.opY rfl rfl rfl rfl rfl ?_
   refine OpE.val (W := NoB) (OpV.move (.inl rfl) rfl) rfl ?_
   refine VO.val rfl rfl (OpV.pickF rfl rfl rfl rfl rfl) ?_
   refine VO.mv rfl rfl rfl rfl ?_
   refine VO.opY rfl rfl rfl rfl rfl ?_
   refine OpE.val (W := NoB) (OpV.move (.inl rfl) rfl) rfl ?_
   refine VO.opY rfl rfl rfl rfl rfl ?_
   refine OpE.val (W := NoB) (OpV.move (.inl rfl) rfl) rfl ?_
   refine VO.opY rfl rfl rfl rfl rfl ?_
   refine OpE.val (W := NoB) (OpV.lss rfl rfl rfl) rfl ?_
   refine VO.le _ (Le.boolF (t := 119) rfl (decide_eq_false (by rw [if_pos hf0]; omega))) ?_
   refine VO.val rfl rfl (OpV.pickF rfl rfl rfl rfl rfl) ?_
   refine VO.mv rfl rfl rfl rfl ?_
   refine VO.opY rfl rfl rfl rfl rfl ?_
   refine OpE.val (W := NoB) (OpV.move (.inl rfl) rfl) rfl ?_
   refine VO.opY rfl rfl rfl rfl rfl ?_
   refine OpE.val (W := NoB) (OpV.len_im rfl Tryz.underlying67 rfl) rfl ?_
   refine VO.opY rfl rfl rfl rfl rfl ?_
   refine OpE.val (W := NoB) (OpV.gtr rfl rfl rfl) rfl ?_
   refine VO.le _ (Le.boolF (t := 124) rfl (decide_eq_false (by rw [if_pos hf0, y6]; simp))) ?_
   refine VO.val rfl rfl (OpV.pickF rfl rfl rfl rfl rfl) ?_
   refine VO.nil ?_
   refine VC.condF rfl rfl ?_
   refine VC.skip ?_
   refine VC.seq ?_
   refine VC.sr ?_
   refine VO.mv rfl rfl rfl rfl ?_
   refine VO.nil ?_
   refine VC.cond rfl (fun h3b => ?_) (fun h3b => ?_)
   ·have h3 := h3b
    try simp only [qqT, qqF, qqN, qqM, qqL, qqE] at h3
    obtain ⟨f1, f2, f3⟩ := fst_yes hf0 hn12 h3
    rw [hQ, hX] at f3
    rw [hQ] at f1 f2
    refine VC.sr ?_
    refine VO.mv rfl rfl rfl rfl ?_
    refine VO.mv rfl rfl rfl rfl ?_
    refine VO.mv rfl rfl rfl rfl ?_
    refine VO.op rfl (OpE.call rfl hB rfl Tryz.call80 rfl (SpecN.spec (line_Slowest hms.1 hns.1 (by omega))) ?_)
    rintro _ rfl
    refine VO.le _ (Le.recast (t := 131) (y := .tup [avI (slowI ms ns Q), avI (slowC ms ns Q), avI 0]) rfl (fun w Z u h => by rw [f2, if_pos rfl, if_pos rfl] at h; exact h)) ?_
    refine VO.mv rfl rfl rfl rfl ?_
    refine VO.val rfl rfl (OpV.extract rfl rfl rfl) ?_
    refine VO.val rfl rfl (OpV.extract rfl rfl rfl) ?_
    refine VO.val rfl rfl (OpV.extract rfl rfl rfl) ?_
    refine VO.ma rfl rfl rfl rfl ?_
    refine VO.ma rfl rfl rfl rfl ?_
    refine VO.ma rfl rfl rfl rfl ?_
    refine VO.nil ?_
    refine VC.sr ?_
    refine VO.mv rfl rfl rfl rfl ?_
    refine VO.val rfl rfl (OpV.neq rfl rfl rfl) ?_
    refine VO.le _ (Le.boolF (t := 136) rfl (decide_eq_false (by decide))) ?_
    refine VO.mv rfl rfl rfl rfl ?_
    refine VO.opY rfl rfl rfl rfl rfl ?_
    refine OpE.val (W := NoB) (OpV.move (.inl rfl) rfl) rfl ?_
    refine VO.opY rfl rfl rfl rfl rfl ?_
    refine OpE.val (W := NoB) (OpV.move (.inl rfl) rfl) rfl ?_
    refine VO.opY rfl rfl rfl rfl rfl ?_
    refine OpE.val (W := NoB) (OpV.lss rfl rfl rfl) rfl ?_
    refine VO.le _ (Le.boolF (t := 140) rfl (decide_eq_false (by omega))) ?_
    refine VO.val rfl rfl (OpV.pickF rfl rfl rfl rfl rfl) ?_
    refine VO.nil ?_
    refine VC.condF rfl rfl ?_
    refine VC.skip ?_
    refine VC.sr ?_
    refine VO.op rfl (OpE.call rfl hB rfl Tryz.call38 rfl (SpecN.spec (rk_ready)) ?_)
    rintro _ rfl
    refine VO.ma rfl rfl rfl rfl ?_
    refine VO.nil ?_
    refine VC.ret ?_
    exact And.intro rfl rfl
   ·have h3 := h3b
    try simp only [qqT, qqF, qqN, qqM, qqL, qqE] at h3
    refine VC.skip ?_
    refine VC.sr ?_
    refine VO.op rfl (OpE.call rfl hB rfl Tryz.call38 rfl (SpecN.spec (rk_ready)) ?_)
    rintro _ rfl
    refine VO.ma rfl rfl rfl rfl ?_
    refine VO.nil ?_
    refine VC.ret ?_
    exact And.intro rfl rfl
end Go.Proofs.YtaaokimiadfidaaGreatDoor
