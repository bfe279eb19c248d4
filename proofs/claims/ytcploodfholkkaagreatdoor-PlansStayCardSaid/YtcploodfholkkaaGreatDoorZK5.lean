/- Part 5 of a proof: the walks and laws that it needs. -/
import Derived.Test.YtcploodfholkkaaGreatDoorZK4
set_option linter.unusedVariables false
set_option linter.unusedSimpArgs false
namespace Go.Proofs.YtcploodfholkkaaGreatDoor
open Go.RowKit
set_option maxRecDepth 100000
section
theorem panel_isSize {n : Int}  :
  SpecN Tryz.prog 160 [avI n] (fun y => y = avB (!outR n 1 500000)) := by
 refine SpecN.of_VCN Tryz.func160 rfl Tryz.ntmps160 (Nle rfl) fun w A hB => ?_
 refine VC.sr ?_
 refine VO.mb ?_
 refine VO.nil ?_
 refine VC.sr ?_
 refine VO.mw ?_
 refine VO.op rfl (OpE.call rfl hB rfl Tryz.call161 rfl (SpecN.spec (kit_Outside)) ?_)
 rintro _ rfl
 refine VO.vv (OpV.not rfl rfl) ?_
 refine VO.mb ?_
 refine VO.nil ?_
 refine VC.ret ?_
 exact Exists.intro _ (And.intro (RetN.one Tryz.results160 (ResN.v rfl)) (rfl))
theorem panel_placementFault {p : ProdS} {i : Nat} (hs : SmP p) (hi : i < p.places.length) :
    SpecN Tryz.prog 231 [avProd p, avI (i : Int)] (fun y => y = avI (placeE p i)) := by
  refine SpecN.of_VCN Tryz.func231 rfl Tryz.ntmps231 (Nle rfl) fun w A hB => ?_
  refine VC.seq ?_
  have hl := hs.len
  refine VC.region ?_
  refine VO.op rfl (OpE.box rfl hB rfl rfl rfl ?_)
  intro g2
  refine VO.mb ?_
  refine VO.nil ?_
  refine VC.sr ?_
  refine VO.vv (OpV.fieldAddrO 3 rfl Tryz.underlying28 rfl rfl Tryz.sizeOf26 rfl) ?_
  refine VO.vv (OpV.load_own (i := 0) rfl hB Tryz.isAgg26 rfl rfl rfl (fun h => h)) ?_
  refine VO.mw ?_
  refine VO.vv (OpV.indexAddr_E rfl Tryz.underlying26 Tryz.sizeOf152 rfl rfl rfl (by omega)) ?_
  refine VO.vv (OpV.loadK_at rfl hB OutW.no Tryz.isAgg152 Tryz.sizeOf152 rfl rfl) ?_
  refine VO.op rfl (OpE.alloc rfl hB rfl Tryz.zeroValue152 rfl ?_)
  intro g5
  refine VO.op rfl (OpE.store (i := 1) rfl hB rfl Tryz.sizeOf152 rfl rfl rfl rfl rfl rfl (Nle rfl) trivial ?_)
  refine VO.nil ?_
  refine VC.seq ?_
  refine VC.block ?_
  refine VC.sr ?_
  refine VO.vv (OpV.fieldAddrO 0 rfl Tryz.underlying152 rfl rfl Tryz.sizeOf9 rfl) ?_
  refine VO.vv (OpV.load_own (i := 1) rfl hB Tryz.isAgg9 rfl rfl rfl (fun h => h)) ?_
  refine VO.op rfl (OpE.call rfl hB rfl Tryz.call230 rfl (SpecN.spec (kit_IsKey (by have := hs.name i; omega))) ?_)
  rintro _ rfl
  refine VO.vv (OpV.not rfl rfl) ?_
  refine VO.mw ?_
  refine VO.opG rfl rfl rfl rfl (fun aK1b => ?_) (fun aK1b => ?_)
  · replace aK1b : _ = false := aK1b
    have aK1 := aK1b
    try simp only [qq] at aK1
    refine OpE.val (W := NoB) (OpV.fieldAddrO 1 rfl Tryz.underlying152 rfl rfl Tryz.sizeOf9 rfl) rfl ?_
    refine VO.opY rfl rfl rfl rfl aK1b ?_
    refine OpE.val (W := NoB) (OpV.load_own (i := 1) rfl hB Tryz.isAgg9 rfl rfl rfl (fun h => h)) rfl ?_
    refine VO.opY rfl rfl rfl rfl aK1b ?_
    refine OpE.call rfl hB rfl Tryz.call230 rfl (SpecN.spec (kit_IsKey (by have := hs.part i; omega))) ?_
    rintro _ rfl
    refine VO.opY rfl rfl rfl rfl aK1b ?_
    refine OpE.val (W := NoB) (OpV.not rfl rfl) rfl ?_
    refine VO.vv (OpV.pickF rfl rfl rfl rfl aK1b) ?_
    refine VO.mb ?_
    refine VO.nil ?_
    refine VC.cond rfl (fun aH2b => ?_) (fun aH2b => ?_)
    · have aH2 := aH2b
      try simp only [qq] at aH2
      refine VC.sr ?_
      refine VO.mb ?_
      refine VO.nil ?_
      refine VC.ret ?_
      exact Exists.intro _ (And.intro (RetN.one Tryz.results231 (ResN.v rfl)) (by first | rw [placeE_5a (by assumption)] | rw [placeE_5b (by assumption)]))
    · have aH2 := aH2b
      try simp only [qq] at aH2
      refine VC.seq ?_
      refine VC.draw (fun _ => NoB) hB (by kernel_rfl) ?_
      refine VA.tk (i := 0) rfl (OpV.move (.inl rfl) rfl) ?_
      refine VA.tk (i := 1) rfl (OpV.gtr rfl rfl rfl) ?_
      refine VA.tk (i := 2) rfl (OpV.move (.inl rfl) rfl) ?_
      refine VA.split (t := 25) rfl (fun aK3b => ?_) (fun aK3b => ?_)
      · have aK3 := aK3b
        try simp only [qq] at aK3
        refine VA.takeY (i := 3) rfl (by kernel_rfl) (by kernel_rfl) (by kernel_rfl) rfl rfl rfl rfl aK3b (OpV.fieldAddrO 0 rfl Tryz.underlying152 rfl rfl Tryz.sizeOf9 rfl) ?_
        refine VA.takeY (i := 4) rfl (by kernel_rfl) (by kernel_rfl) (by kernel_rfl) rfl rfl rfl rfl aK3b (OpV.load_own (i := 1) rfl hB Tryz.isAgg9 rfl rfl rfl Wi.not0) ?_
        refine VA.takeY (i := 5) rfl (by kernel_rfl) (by kernel_rfl) (by kernel_rfl) rfl rfl rfl rfl aK3b (OpV.fieldAddrO 3 rfl Tryz.underlying28 rfl rfl Tryz.sizeOf26 rfl) ?_
        refine VA.takeY (i := 6) rfl (by kernel_rfl) (by kernel_rfl) (by kernel_rfl) rfl rfl rfl rfl aK3b (OpV.load_own (i := 0) rfl hB Tryz.isAgg26 rfl rfl rfl Wi.not0) ?_
        refine VA.takeY (i := 7) rfl (by kernel_rfl) (by kernel_rfl) (by kernel_rfl) rfl rfl rfl rfl aK3b (OpV.move (.inl rfl) rfl) ?_
        refine VA.takeY (i := 8) rfl (by kernel_rfl) (by kernel_rfl) (by kernel_rfl) rfl rfl rfl rfl aK3b (OpV.sub rfl rfl rfl (by unfold fits; omega)) ?_
        refine VA.takeY (i := 9) rfl (by kernel_rfl) (by kernel_rfl) (by kernel_rfl) rfl rfl rfl rfl aK3b (OpV.indexAddr_E rfl Tryz.underlying26 Tryz.sizeOf152 rfl rfl (show ((i : Int) - 1) = ((i - 1 : Nat) : Int) by omega) (by omega)) ?_
        refine VA.takeY (i := 10) rfl (by kernel_rfl) (by kernel_rfl) (by kernel_rfl) rfl rfl rfl rfl aK3b (OpV.fieldAddr_atO 0 rfl Tryz.underlying152 rfl rfl Tryz.sizeOf9 rfl rfl) ?_
        refine VA.takeY (i := 11) rfl (by kernel_rfl) (by kernel_rfl) (by kernel_rfl) rfl rfl rfl rfl aK3b (OpV.load_at rfl hB OutW.wi0 Tryz.isAgg9 rfl rfl) ?_
        refine VA.takeY (i := 12) rfl (by kernel_rfl) (by kernel_rfl) (by kernel_rfl) rfl rfl rfl rfl aK3b (OpV.sleq rfl rfl rfl) ?_
        refine VA.tk (i := 13) rfl (OpV.pickT rfl rfl rfl rfl aK3b) ?_
        refine VA.tk (i := 14) rfl (OpV.move (.inr rfl) rfl) ?_
        refine VA.done (by kernel_rfl) ?_
        refine VC.cond rfl (fun aH4b => ?_) (fun aH4b => ?_)
        · have aH4 := aH4b
          try simp only [qq] at aH4
          refine VC.sr ?_
          refine VO.mb ?_
          refine VO.nil ?_
          refine VC.ret ?_
          exact Exists.intro _ (And.intro (RetN.one Tryz.results231 (ResN.v rfl)) (by rw [placeE_7 (by assumption) (by assumption) (by omega) (by assumption)]))
        · have aH4 := aH4b
          try simp only [qq] at aH4
          refine VC.sr ?_
          refine VO.vv (OpV.fieldAddrO 2 rfl Tryz.underlying152 rfl rfl Tryz.sizeOf3 rfl) ?_
          refine VO.vv (OpV.load_own (i := 1) rfl hB Tryz.isAgg3 rfl rfl rfl (fun h => h)) ?_
          refine VO.vv (OpV.fieldAddrO 1 rfl Tryz.underlying28 rfl rfl Tryz.sizeOf3 rfl) ?_
          refine VO.vv (OpV.load_own (i := 0) rfl hB Tryz.isAgg3 rfl rfl rfl (fun h => h)) ?_
          refine VO.op rfl (OpE.call rfl hB rfl Tryz.call161 rfl (SpecN.spec (kit_Outside)) ?_)
          rintro _ rfl
          refine VO.mw ?_
          refine VO.opG rfl rfl rfl rfl (fun aK5b => ?_) (fun aK5b => ?_)
          · replace aK5b : _ = false := aK5b
            have aK5 := aK5b
            try simp only [qq] at aK5
            refine OpE.val (W := NoB) (OpV.fieldAddrO 3 rfl Tryz.underlying152 rfl rfl Tryz.sizeOf3 rfl) rfl ?_
            refine VO.opY rfl rfl rfl rfl aK5b ?_
            refine OpE.val (W := NoB) (OpV.load_own (i := 1) rfl hB Tryz.isAgg3 rfl rfl rfl (fun h => h)) rfl ?_
            refine VO.opY rfl rfl rfl rfl aK5b ?_
            refine OpE.val (W := NoB) (OpV.fieldAddrO 2 rfl Tryz.underlying28 rfl rfl Tryz.sizeOf3 rfl) rfl ?_
            refine VO.opY rfl rfl rfl rfl aK5b ?_
            refine OpE.val (W := NoB) (OpV.load_own (i := 0) rfl hB Tryz.isAgg3 rfl rfl rfl (fun h => h)) rfl ?_
            refine VO.opY rfl rfl rfl rfl aK5b ?_
            refine OpE.call rfl hB rfl Tryz.call161 rfl (SpecN.spec (kit_Outside)) ?_
            rintro _ rfl
            refine VO.vv (OpV.pickF rfl rfl rfl rfl aK5b) ?_
            refine VO.mw ?_
            refine VO.opG rfl rfl rfl rfl (fun aK6b => ?_) (fun aK6b => ?_)
            · replace aK6b : _ = false := aK6b
              have aK6 := aK6b
              try simp only [qq] at aK6
              refine OpE.val (W := NoB) (OpV.fieldAddrO 4 rfl Tryz.underlying152 rfl rfl Tryz.sizeOf3 rfl) rfl ?_
              refine VO.opY rfl rfl rfl rfl aK6b ?_
              refine OpE.val (W := NoB) (OpV.load_own (i := 1) rfl hB Tryz.isAgg3 rfl rfl rfl (fun h => h)) rfl ?_
              refine VO.opY rfl rfl rfl rfl aK6b ?_
              refine OpE.call rfl hB rfl Tryz.call161 rfl (SpecN.spec (kit_Outside)) ?_
              rintro _ rfl
              refine VO.vv (OpV.pickF rfl rfl rfl rfl aK6b) ?_
              refine VO.mb ?_
              refine VO.nil ?_
              refine VC.cond rfl (fun aH7b => ?_) (fun aH7b => ?_)
              · have aH7 := aH7b
                try simp only [qq] at aH7
                refine VC.sr ?_
                refine VO.mb ?_
                refine VO.nil ?_
                refine VC.ret ?_
                exact Exists.intro _ (And.intro (RetN.one Tryz.results231 (ResN.v rfl)) (by first | rw [placeE_1 (by assumption) (by assumption) (by first | (left; omega) | (right; assumption)) (by first | exact or3a (by assumption) | exact or3b (by assumption) | exact or3c (by assumption))]))
              · have aH7 := aH7b
                try simp only [qq] at aH7
                refine VC.skip ?_
                refine VC.sr ?_
                refine VO.mb ?_
                refine VO.nil ?_
                refine VC.ret ?_
                exact Exists.intro _ (And.intro (RetN.one Tryz.results231 (ResN.v rfl)) (by rw [placeE_0 (by assumption) (by assumption) (by first | (left; omega) | (right; assumption)) (or3f (by assumption) (by assumption) (by assumption))]))
            · replace aK6b : _ = true := aK6b
              have aK6 := aK6b
              try simp only [qq] at aK6
              refine VO.opX rfl rfl rfl rfl aK6b ?_
              refine VO.opX rfl rfl rfl rfl aK6b ?_
              refine VO.vv (OpV.pickT rfl rfl rfl rfl aK6b) ?_
              refine VO.mb ?_
              refine VO.nil ?_
              refine VC.condT rfl rfl ?_
              refine VC.sr ?_
              refine VO.mb ?_
              refine VO.nil ?_
              refine VC.ret ?_
              exact Exists.intro _ (And.intro (RetN.one Tryz.results231 (ResN.v rfl)) (by first | rw [placeE_1 (by assumption) (by assumption) (by first | (left; omega) | (right; assumption)) (by first | exact or3a (by assumption) | exact or3b (by assumption) | exact or3c (by assumption))]))
          · replace aK5b : _ = true := aK5b
            have aK5 := aK5b
            try simp only [qq] at aK5
            refine VO.opX rfl rfl rfl rfl aK5b ?_
            refine VO.opX rfl rfl rfl rfl aK5b ?_
            refine VO.opX rfl rfl rfl rfl aK5b ?_
            refine VO.opX rfl rfl rfl rfl aK5b ?_
            refine VO.vv (OpV.pickT rfl rfl rfl rfl aK5b) ?_
            refine VO.mw ?_
            refine VO.opX rfl rfl rfl rfl rfl ?_
            refine VO.opX rfl rfl rfl rfl rfl ?_
            refine VO.opX rfl rfl rfl rfl rfl ?_
            refine VO.vv (OpV.pickT rfl rfl rfl rfl rfl) ?_
            refine VO.mb ?_
            refine VO.nil ?_
            refine VC.condT rfl rfl ?_
            refine VC.sr ?_
            refine VO.mb ?_
            refine VO.nil ?_
            refine VC.ret ?_
            exact Exists.intro _ (And.intro (RetN.one Tryz.results231 (ResN.v rfl)) (by first | rw [placeE_1 (by assumption) (by assumption) (by first | (left; omega) | (right; assumption)) (by first | exact or3a (by assumption) | exact or3b (by assumption) | exact or3c (by assumption))]))
      · have aK3 := aK3b
        try simp only [qq] at aK3
        refine VA.takeX (i := 3) rfl (by kernel_rfl) (by kernel_rfl) (by kernel_rfl) rfl rfl rfl rfl aK3b ?_
        refine VA.takeX (i := 4) rfl (by kernel_rfl) (by kernel_rfl) (by kernel_rfl) rfl rfl rfl rfl aK3b ?_
        refine VA.takeX (i := 5) rfl (by kernel_rfl) (by kernel_rfl) (by kernel_rfl) rfl rfl rfl rfl aK3b ?_
        refine VA.takeX (i := 6) rfl (by kernel_rfl) (by kernel_rfl) (by kernel_rfl) rfl rfl rfl rfl aK3b ?_
        refine VA.takeX (i := 7) rfl (by kernel_rfl) (by kernel_rfl) (by kernel_rfl) rfl rfl rfl rfl aK3b ?_
        refine VA.takeX (i := 8) rfl (by kernel_rfl) (by kernel_rfl) (by kernel_rfl) rfl rfl rfl rfl aK3b ?_
        refine VA.takeX (i := 9) rfl (by kernel_rfl) (by kernel_rfl) (by kernel_rfl) rfl rfl rfl rfl aK3b ?_
        refine VA.takeX (i := 10) rfl (by kernel_rfl) (by kernel_rfl) (by kernel_rfl) rfl rfl rfl rfl aK3b ?_
        refine VA.takeX (i := 11) rfl (by kernel_rfl) (by kernel_rfl) (by kernel_rfl) rfl rfl rfl rfl aK3b ?_
        refine VA.takeX (i := 12) rfl (by kernel_rfl) (by kernel_rfl) (by kernel_rfl) rfl rfl rfl rfl aK3b ?_
        refine VA.tk (i := 13) rfl (OpV.pickF rfl rfl rfl rfl aK3b) ?_
        refine VA.tk (i := 14) rfl (OpV.move (.inr rfl) rfl) ?_
        refine VA.done (by kernel_rfl) ?_
        refine VC.condF rfl rfl ?_
        refine VC.sr ?_
        refine VO.vv (OpV.fieldAddrO 2 rfl Tryz.underlying152 rfl rfl Tryz.sizeOf3 rfl) ?_
        refine VO.vv (OpV.load_own (i := 1) rfl hB Tryz.isAgg3 rfl rfl rfl (fun h => h)) ?_
        refine VO.vv (OpV.fieldAddrO 1 rfl Tryz.underlying28 rfl rfl Tryz.sizeOf3 rfl) ?_
        refine VO.vv (OpV.load_own (i := 0) rfl hB Tryz.isAgg3 rfl rfl rfl (fun h => h)) ?_
        refine VO.op rfl (OpE.call rfl hB rfl Tryz.call161 rfl (SpecN.spec (kit_Outside)) ?_)
        rintro _ rfl
        refine VO.mw ?_
        refine VO.opG rfl rfl rfl rfl (fun aK8b => ?_) (fun aK8b => ?_)
        · replace aK8b : _ = false := aK8b
          have aK8 := aK8b
          try simp only [qq] at aK8
          refine OpE.val (W := NoB) (OpV.fieldAddrO 3 rfl Tryz.underlying152 rfl rfl Tryz.sizeOf3 rfl) rfl ?_
          refine VO.opY rfl rfl rfl rfl aK8b ?_
          refine OpE.val (W := NoB) (OpV.load_own (i := 1) rfl hB Tryz.isAgg3 rfl rfl rfl (fun h => h)) rfl ?_
          refine VO.opY rfl rfl rfl rfl aK8b ?_
          refine OpE.val (W := NoB) (OpV.fieldAddrO 2 rfl Tryz.underlying28 rfl rfl Tryz.sizeOf3 rfl) rfl ?_
          refine VO.opY rfl rfl rfl rfl aK8b ?_
          refine OpE.val (W := NoB) (OpV.load_own (i := 0) rfl hB Tryz.isAgg3 rfl rfl rfl (fun h => h)) rfl ?_
          refine VO.opY rfl rfl rfl rfl aK8b ?_
          refine OpE.call rfl hB rfl Tryz.call161 rfl (SpecN.spec (kit_Outside)) ?_
          rintro _ rfl
          refine VO.vv (OpV.pickF rfl rfl rfl rfl aK8b) ?_
          refine VO.mw ?_
          refine VO.opG rfl rfl rfl rfl (fun aK9b => ?_) (fun aK9b => ?_)
          · replace aK9b : _ = false := aK9b
            have aK9 := aK9b
            try simp only [qq] at aK9
            refine OpE.val (W := NoB) (OpV.fieldAddrO 4 rfl Tryz.underlying152 rfl rfl Tryz.sizeOf3 rfl) rfl ?_
            refine VO.opY rfl rfl rfl rfl aK9b ?_
            refine OpE.val (W := NoB) (OpV.load_own (i := 1) rfl hB Tryz.isAgg3 rfl rfl rfl (fun h => h)) rfl ?_
            refine VO.opY rfl rfl rfl rfl aK9b ?_
            refine OpE.call rfl hB rfl Tryz.call161 rfl (SpecN.spec (kit_Outside)) ?_
            rintro _ rfl
            refine VO.vv (OpV.pickF rfl rfl rfl rfl aK9b) ?_
            refine VO.mb ?_
            refine VO.nil ?_
            refine VC.cond rfl (fun aH10b => ?_) (fun aH10b => ?_)
            · have aH10 := aH10b
              try simp only [qq] at aH10
              refine VC.sr ?_
              refine VO.mb ?_
              refine VO.nil ?_
              refine VC.ret ?_
              exact Exists.intro _ (And.intro (RetN.one Tryz.results231 (ResN.v rfl)) (by first | rw [placeE_1 (by assumption) (by assumption) (by first | (left; omega) | (right; assumption)) (by first | exact or3a (by assumption) | exact or3b (by assumption) | exact or3c (by assumption))]))
            · have aH10 := aH10b
              try simp only [qq] at aH10
              refine VC.skip ?_
              refine VC.sr ?_
              refine VO.mb ?_
              refine VO.nil ?_
              refine VC.ret ?_
              exact Exists.intro _ (And.intro (RetN.one Tryz.results231 (ResN.v rfl)) (by rw [placeE_0 (by assumption) (by assumption) (by first | (left; omega) | (right; assumption)) (or3f (by assumption) (by assumption) (by assumption))]))
          · replace aK9b : _ = true := aK9b
            have aK9 := aK9b
            try simp only [qq] at aK9
            refine VO.opX rfl rfl rfl rfl aK9b ?_
            refine VO.opX rfl rfl rfl rfl aK9b ?_
            refine VO.vv (OpV.pickT rfl rfl rfl rfl aK9b) ?_
            refine VO.mb ?_
            refine VO.nil ?_
            refine VC.condT rfl rfl ?_
            refine VC.sr ?_
            refine VO.mb ?_
            refine VO.nil ?_
            refine VC.ret ?_
            exact Exists.intro _ (And.intro (RetN.one Tryz.results231 (ResN.v rfl)) (by first | rw [placeE_1 (by assumption) (by assumption) (by first | (left; omega) | (right; assumption)) (by first | exact or3a (by assumption) | exact or3b (by assumption) | exact or3c (by assumption))]))
        · replace aK8b : _ = true := aK8b
          have aK8 := aK8b
          try simp only [qq] at aK8
          refine VO.opX rfl rfl rfl rfl aK8b ?_
          refine VO.opX rfl rfl rfl rfl aK8b ?_
          refine VO.opX rfl rfl rfl rfl aK8b ?_
          refine VO.opX rfl rfl rfl rfl aK8b ?_
          refine VO.vv (OpV.pickT rfl rfl rfl rfl aK8b) ?_
          refine VO.mw ?_
          refine VO.opX rfl rfl rfl rfl rfl ?_
          refine VO.opX rfl rfl rfl rfl rfl ?_
          refine VO.opX rfl rfl rfl rfl rfl ?_
          refine VO.vv (OpV.pickT rfl rfl rfl rfl rfl) ?_
          refine VO.mb ?_
          refine VO.nil ?_
          refine VC.condT rfl rfl ?_
          refine VC.sr ?_
          refine VO.mb ?_
          refine VO.nil ?_
          refine VC.ret ?_
          exact Exists.intro _ (And.intro (RetN.one Tryz.results231 (ResN.v rfl)) (by first | rw [placeE_1 (by assumption) (by assumption) (by first | (left; omega) | (right; assumption)) (by first | exact or3a (by assumption) | exact or3b (by assumption) | exact or3c (by assumption))]))
  · replace aK1b : _ = true := aK1b
    have aK1 := aK1b
    try simp only [qq] at aK1
    refine VO.opX rfl rfl rfl rfl aK1b ?_
    refine VO.opX rfl rfl rfl rfl aK1b ?_
    refine VO.opX rfl rfl rfl rfl aK1b ?_
    refine VO.vv (OpV.pickT rfl rfl rfl rfl aK1b) ?_
    refine VO.mb ?_
    refine VO.nil ?_
    refine VC.condT rfl rfl ?_
    refine VC.sr ?_
    refine VO.mb ?_
    refine VO.nil ?_
    refine VC.ret ?_
    exact Exists.intro _ (And.intro (RetN.one Tryz.results231 (ResN.v rfl)) (by first | rw [placeE_5a (by assumption)] | rw [placeE_5b (by assumption)]))
theorem panel_CheckProduct {p : ProdS} (hs : SmP p) :
  SpecN Tryz.prog 159 [avProd p] (fun y => y = avI (prodF p)) := by
 refine SpecN.of_VCN Tryz.func159 rfl Tryz.ntmps159 (Nle rfl) fun w A hB => ?_
 refine VC.seq ?_
 have hl := hs.len
 refine VC.region ?_
 refine VO.op rfl (OpE.box rfl hB rfl rfl rfl ?_)
 intro g1
 refine VO.mb ?_
 refine VO.nil ?_
 refine VC.seq ?_
 refine VC.block ?_
 refine VC.sr ?_
 refine VO.vv (OpV.fieldAddrO 0 rfl Tryz.underlying28 rfl rfl Tryz.sizeOf9 rfl) ?_
 refine VO.vv (OpV.load_own (i := 0) rfl hB Tryz.isAgg9 rfl rfl rfl (fun h => h)) ?_
 refine VO.op rfl (OpE.call rfl hB rfl Tryz.call230 rfl (SpecN.spec (kit_IsKey (by have := hs.key; omega))) ?_)
 rintro _ rfl
 refine VO.vv (OpV.not rfl rfl) ?_
 refine VO.mb ?_
 refine VO.nil ?_
 refine VC.cond rfl (fun k0b => ?_) (fun k0b => ?_)
 ·have k0 := k0b
  try simp only [qq] at k0
  refine VC.sr ?_
  refine VO.mb ?_
  refine VO.nil ?_
  refine VC.ret ?_
  exact Exists.intro _ (And.intro (RetN.one Tryz.results159 (ResN.v rfl)) (by rw [prodF_5 (by assumption)]))
 ·have k0 := k0b
  try simp only [qq] at k0
  refine VC.sr ?_
  refine VO.vv (OpV.fieldAddrO 1 rfl Tryz.underlying28 rfl rfl Tryz.sizeOf3 rfl) ?_
  refine VO.vv (OpV.load_own (i := 0) rfl hB Tryz.isAgg3 rfl rfl rfl (fun h => h)) ?_
  refine VO.op rfl (OpE.call rfl hB rfl Tryz.call160 rfl (SpecN.spec (panel_isSize)) ?_)
  rintro _ rfl
  refine VO.vv (OpV.not rfl rfl) ?_
  refine VO.mw ?_
  refine VO.opG rfl rfl rfl rfl (fun aK1b => ?_) (fun aK1b => ?_)
  ·replace aK1b : _ = false := aK1b
   have aK1 := aK1b
   try simp only [qq] at aK1
   refine OpE.val (W := NoB) (OpV.fieldAddrO 2 rfl Tryz.underlying28 rfl rfl Tryz.sizeOf3 rfl) rfl ?_
   refine VO.opY rfl rfl rfl rfl aK1b ?_
   refine OpE.val (W := NoB) (OpV.load_own (i := 0) rfl hB Tryz.isAgg3 rfl rfl rfl (fun h => h)) rfl ?_
   refine VO.opY rfl rfl rfl rfl aK1b ?_
   refine OpE.call rfl hB rfl Tryz.call160 rfl (SpecN.spec (panel_isSize)) ?_
   rintro _ rfl
   refine VO.opY rfl rfl rfl rfl aK1b ?_
   refine OpE.val (W := NoB) (OpV.not rfl rfl) rfl ?_
   refine VO.vv (OpV.pickF rfl rfl rfl rfl aK1b) ?_
   refine VO.mb ?_
   refine VO.nil ?_
   refine VC.cond rfl (fun k1b => ?_) (fun k1b => ?_)
   ·have k1 := k1b
    try simp only [qq] at k1
    refine VC.sr ?_
    refine VO.mb ?_
    refine VO.nil ?_
    refine VC.ret ?_
    exact Exists.intro _ (And.intro (RetN.one Tryz.results159 (ResN.v rfl)) (by first | rw [prodF_1 k0 (or2a (by assumption))] | rw [prodF_1 k0 (or2b (by assumption))]))
   ·have k1 := k1b
    try simp only [qq] at k1
    refine VC.sr ?_
    refine VO.vv (OpV.fieldAddrO 3 rfl Tryz.underlying28 rfl rfl Tryz.sizeOf26 rfl) ?_
    refine VO.vv (OpV.load_own (i := 0) rfl hB Tryz.isAgg26 rfl rfl rfl (fun h => h)) ?_
    refine VO.vv (OpV.len_im rfl Tryz.underlying26 rfl) ?_
    refine VO.vv (OpV.gtr rfl rfl rfl) ?_
    refine VO.mb ?_
    refine VO.nil ?_
    refine VC.cond rfl (fun k2b => ?_) (fun k2b => ?_)
    ·have k2 := k2b
     try simp only [qq] at k2
     refine VC.sr ?_
     refine VO.mb ?_
     refine VO.nil ?_
     refine VC.ret ?_
     exact Exists.intro _ (And.intro (RetN.one Tryz.results159 (ResN.v rfl)) (by rw [prodF_2 k0 (or2f (by assumption) (by assumption)) (by omega)]))
    ·have k2 := k2b
     try simp only [qq] at k2
     refine VC.skip ?_
     refine VC.seq ?_
     refine VC.sr ?_
     refine VO.vv (OpV.fieldAddrO 3 rfl Tryz.underlying28 rfl rfl Tryz.sizeOf26 rfl) ?_
     refine VO.vv (OpV.load_own (i := 0) rfl hB Tryz.isAgg26 rfl rfl rfl (fun h => h)) ?_
     refine VO.vv (OpV.len_im rfl Tryz.underlying26 rfl) ?_
     refine VO.mw ?_
     refine VO.nil ?_
     refine VC.block ?_
     refine VC.loopK [(1, _), (28, _)] ⟨rfl, rfl, trivial⟩ ({q : Nat // q ≤ p.places.length ∧ ∀ j, j < q → placeE p j = 0}) (fun (iZ : {q : Nat // q ≤ p.places.length ∧ ∀ j, j < q → placeE p j = 0}) => match iZ with | ⟨q, hq, hn⟩ => [(29, avI (q : Int))]) (fun (iZ : {q : Nat // q ≤ p.places.length ∧ ∀ j, j < q → placeE p j = 0}) => match iZ with | ⟨q, hq, hn⟩ => [boxProd g1 p 28]) (fun (iZ : {q : Nat // q ≤ p.places.length ∧ ∀ j, j < q → placeE p j = 0}) => match iZ with | ⟨q, hq, hn⟩ => 0) (fun (iZ : {q : Nat // q ≤ p.places.length ∧ ∀ j, j < q → placeE p j = 0}) => match iZ with | ⟨q, hq, hn⟩ => p.places.length - q) ⟨0, Nat.zero_le _, fun j hj => absurd hj (Nat.not_lt_zero j)⟩ (Le.mk hB [0] ⟨rfl, rfl, rfl, trivial⟩ rfl rfl (Nat.le_refl _)) ?_
     rintro ⟨q, hq, hn⟩
     show VC _ _ _ _ ⟨[(29, avI (q : Int))] ++ [(1, _), (28, _)], [boxProd g1 p 28], 0⟩
     refine VC.sr ?_
     refine VO.vv (OpV.lss rfl rfl rfl) ?_
     refine VO.nil ?_
     refine VC.seq ?_
     refine VC.cond rfl (fun aH2b => ?_) (fun aH2b => ?_)
     ·have aH2 := aH2b
      try simp only [qq] at aH2
      refine VC.skip ?_
      refine VC.seq ?_
      refine VC.block ?_
      refine VC.sr ?_
      refine VO.mw ?_
      refine VO.mb ?_
      refine VO.nil ?_
      refine VC.sr ?_
      refine VO.vv (OpV.loadK_own (i := 0) rfl hB Tryz.isAgg28 Tryz.sizeOf28 rfl rfl rfl (fun h => h)) ?_
      refine VO.mw ?_
      refine VO.op rfl (OpE.call rfl hB rfl Tryz.call231 rfl (SpecN.spec (panel_placementFault hs (by omega))) ?_)
      rintro _ rfl
      refine VO.mb ?_
      refine VO.nil ?_
      refine VC.sr ?_
      refine VO.mw ?_
      refine VO.vv (OpV.neq rfl rfl rfl) ?_
      refine VO.nil ?_
      refine VC.cond rfl (fun k4b => ?_) (fun k4b => ?_)
      ·have k4 := k4b
       try simp only [qq] at k4
       refine VC.sr ?_
       refine VO.mw ?_
       refine VO.mb ?_
       refine VO.nil ?_
       refine VC.ret ?_
       exact Exists.intro _ (And.intro (RetN.one Tryz.results159 (ResN.v rfl)) (by rw [prodF_at k0 (or2f (by assumption) (by assumption)) (by omega) (by omega) hn rfl k4]))
      ·have k4 := k4b
       try simp only [qq] at k4
       refine VC.skip ?_
       refine VC.region ?_
       refine VO.vv (OpV.add rfl rfl rfl (by unfold fits; omega)) ?_
       refine VO.mw ?_
       refine VO.nil ?_
       exact Exists.intro (⟨q + 1, by omega, lt_succ_cases hn ((by omega))⟩) (And.intro (Le.mk hB [0] ⟨rfl, rfl, rfl, trivial⟩ rfl rfl (Nat.le_refl _)) (by first | omega | (show _ < _; omega) | (simp only []; omega)))
     ·have aH2 := aH2b
      try simp only [qq] at aH2
      refine VC.exit ?_
      refine VC.sr ?_
      refine VO.mb ?_
      refine VO.nil ?_
      refine VC.ret ?_
      exact Exists.intro _ (And.intro (RetN.one Tryz.results159 (ResN.v rfl)) (by rw [prodF_ok k0 (or2f (by assumption) (by assumption)) (by omega) (fun j hj => hn j (by omega))]))
  ·replace aK1b : _ = true := aK1b
   have aK1 := aK1b
   try simp only [qq] at aK1
   refine VO.opX rfl rfl rfl rfl aK1b ?_
   refine VO.opX rfl rfl rfl rfl aK1b ?_
   refine VO.opX rfl rfl rfl rfl aK1b ?_
   refine VO.vv (OpV.pickT rfl rfl rfl rfl aK1b) ?_
   refine VO.mb ?_
   refine VO.nil ?_
   refine VC.condT rfl rfl ?_
   refine VC.sr ?_
   refine VO.mb ?_
   refine VO.nil ?_
   refine VC.ret ?_
   exact Exists.intro _ (And.intro (RetN.one Tryz.results159 (ResN.v rfl)) (by first | rw [prodF_1 k0 (or2a (by assumption))] | rw [prodF_1 k0 (or2b (by assumption))]))
end
section
abbrev kvS : ByteArray → Value := fun k => Value.string k
abbrev eI : Int → AV := fun n => avI n
theorem flat_need (xs : List NeedS) : FlatA (rowL xs) := flat_rowL (fun x j hj => by
 match j, hj with
 | 0, _ => exact ⟨_, rfl⟩
 | 1, _ => exact ⟨_, rfl⟩) xs
theorem cnt_key_small {p : ProdS} (hs : SmP p) (q : Nat) : ∀ x ∈ cntP (p.places.take q), x.1.size ≤ maxLen := fun x hx => by
 have : x.1 ∈ (cntP (p.places.take q)).map (·.1) := List.mem_map.2 ⟨x, hx, rfl⟩
 obtain ⟨y, hy, e⟩ := cntP_mem.1 this
 obtain ⟨j, hj, rfl⟩ := List.getElem_of_mem hy
 rw [← e]
 have h1 := hs.part j
 simp only [List.length_take] at hj
 rw [List.getElem_take]
 rw [List.getD_eq_getElem?_getD, List.getElem?_eq_getElem (by omega)] at h1
 simp only [maxLen]
 exact Nat.le_trans h1 (by decide)
theorem needs_take {p : ProdS} {r : Nat} (h : r < (sKeys (cntP p.places)).length) : (needsL p).take (r + 1) = (needsL p).take r ++ [⟨(sKeys (cntP p.places)).getD r ByteArray.empty, mgetD (cntP p.places) ((sKeys (cntP p.places)).getD r ByteArray.empty) 0⟩] := by
 rw [take_snocD (by simpa [needsL] using h) default]
 congr 2
 simp [needsL, List.getD_eq_getElem?_getD, h]
set_option maxHeartbeats 4000000 in
theorem panel_Needs {p : ProdS} (hs : SmP p) :
  SpecN Tryz.prog 83 [avProd p] (fun y => y = .tup [avL (needsR p), avI (prodF p)]) := by
 refine SpecN.of_VCN Tryz.func83 rfl Tryz.ntmps83 (Nle rfl) fun w A hB => ?_
 have hnew : True := trivial
 refine VC.seq ?_
 have hl := hs.len
 refine VC.region ?_
 refine VO.op rfl (OpE.box rfl hB rfl rfl rfl ?_)
 intro g1
 refine VO.mb ?_
 refine VO.mb ?_
 refine VO.nil ?_
 refine VC.seq ?_
 refine VC.sr ?_
 refine VO.vv (OpV.loadK_own (i := 0) rfl hB Tryz.isAgg28 Tryz.sizeOf28 rfl rfl rfl (fun h => h)) ?_
 refine VO.op rfl (OpE.call rfl hB rfl Tryz.call159 rfl (SpecN.spec (panel_CheckProduct hs)) ?_)
 rintro _ rfl
 refine VO.mb ?_
 refine VO.nil ?_
 refine VC.sr ?_
 refine VO.mw ?_
 refine VO.vv (OpV.neq rfl rfl rfl) ?_
 refine VO.nil ?_
 refine VC.cond rfl (fun h0b => ?_) (fun h0b => ?_)
 ·have h0 := h0b
  try simp only [qq] at h0
  refine VC.sr ?_
  refine VO.mw ?_
  refine VO.mb ?_
  refine VO.mb ?_
  refine VO.nil ?_
  refine VC.ret ?_
  exact Exists.intro _ (And.intro (RetN.two Tryz.results83 (ResN.nilE rfl) (ResN.v rfl)) (by first | (rw [needsR, if_neg h0]; rfl) | (rw [needsR, if_pos h00, h00])))
 ·have h0 := h0b
  try simp only [qq] at h0
  have h00 : prodF p = 0 := by omega
  have hok := prodOk h00
  have hlen := hok.len
  refine VC.skip ?_
  refine VC.sr ?_
  refine VO.op rfl (OpE.makeMap (kvS) (eI) rfl hB rfl ?_)
  intro g16
  refine VO.mb ?_
  refine VO.nil ?_
  refine VC.seq ?_
  refine VC.sr ?_
  refine VO.vv (OpV.fieldAddrO 3 rfl Tryz.underlying28 rfl rfl Tryz.sizeOf26 rfl) ?_
  refine VO.vv (OpV.load_own (i := 0) rfl hB Tryz.isAgg26 rfl rfl rfl (fun h => h)) ?_
  refine VO.vv (OpV.len_im rfl Tryz.underlying26 rfl) ?_
  refine VO.mw ?_
  refine VO.nil ?_
  refine VC.block ?_
  refine VC.loopK [(5, _), (18, _), (19, _)] ⟨rfl, rfl, rfl, trivial⟩ ({q : Nat // q ≤ p.places.length}) (fun (iZ : {q : Nat // q ≤ p.places.length}) => match iZ with | ⟨q, hq⟩ => [(20, avI (q : Int))]) (fun (iZ : {q : Nat // q ≤ p.places.length}) => match iZ with | ⟨q, hq⟩ => [boxProd g1 p 28, mapE kvS g16 eI (cntP (p.places.take q))]) (fun (iZ : {q : Nat // q ≤ p.places.length}) => match iZ with | ⟨q, hq⟩ => 0) (fun (iZ : {q : Nat // q ≤ p.places.length}) => match iZ with | ⟨q, hq⟩ => p.places.length - q) ⟨0, Nat.zero_le _⟩ (Le.mk hB [0, 1] ⟨rfl, rfl, rfl, rfl, trivial⟩ rfl rfl (Nat.le_refl _)) ?_
  rintro ⟨q, hq⟩
  show VC _ _ _ _ ⟨[(20, avI (q : Int))] ++ [(5, _), (18, _), (19, _)], [boxProd g1 p 28, mapE kvS g16 eI (cntP (p.places.take q))], 0⟩
  refine VC.sr ?_
  refine VO.vv (OpV.lss rfl rfl rfl) ?_
  refine VO.nil ?_
  refine VC.seq ?_
  refine VC.cond rfl (fun aH1b => ?_) (fun aH1b => ?_)
  ·have aH1 := aH1b
   try simp only [qq] at aH1
   refine VC.skip ?_
   refine VC.seq ?_
   refine VC.block ?_
   refine VC.sr ?_
   refine VO.vv (OpV.indexAddr_E rfl Tryz.underlying26 Tryz.sizeOf152 rfl rfl rfl (by omega)) ?_
   refine VO.vv (OpV.loadK_at rfl hB OutW.no Tryz.isAgg152 Tryz.sizeOf152 rfl rfl) ?_
   refine VO.op rfl (OpE.alloc rfl hB rfl Tryz.zeroValue152 rfl ?_)
   intro g7
   refine VO.op rfl (OpE.store (i := 2) rfl hB rfl Tryz.sizeOf152 rfl rfl rfl rfl rfl rfl (Nle rfl) trivial ?_)
   refine VO.nil ?_
   refine VC.region ?_
   refine VO.mw ?_
   refine VO.vv (OpV.fieldAddrO 1 rfl Tryz.underlying152 rfl rfl Tryz.sizeOf9 rfl) ?_
   refine VO.vv (OpV.load_own (i := 2) rfl hB Tryz.isAgg9 rfl rfl rfl (fun h => h)) ?_
   refine VO.vv (OpV.lookup_own (i := 1) rfl hB Tryz.underlying208 (KeyOk.str Tryz.underlying9) Tryz.zeroValue3 rfl (KeyE.v rfl) rfl (fun h => h)) ?_
   refine VO.le _ (Le.recast (t := 27) (y := avI (mgetD (cntP (p.places.take q)) (p.places.getD q default).part 0)) rfl (fun w Z u h => by unfold mgetD; revert h; cases mget (cntP (p.places.take q)) (p.places.getD q default).part <;> exact id)) ?_
   refine VO.vv (OpV.add rfl rfl rfl (by have h := cntP_bd (p.places.take q) (p.places.getD q default).part; have h2 := List.length_take_le q p.places; unfold fits; omega)) ?_
   refine VO.op rfl (OpE.mapUpdate (i := 1) (xx := mgetD (cntP (p.places.take q)) (p.places.getD q default).part 0 + 1) rfl hB rfl Tryz.underlying208 (KeyOk.str Tryz.underlying9) rfl (KeyE.v rfl) rfl rfl trivial ?_)
   refine VO.nil ?_
   refine VC.region ?_
   refine VO.vv (OpV.add rfl rfl rfl (by unfold fits; omega)) ?_
   refine VO.mw ?_
   refine VO.nil ?_
   exact Exists.intro (⟨q + 1, by omega⟩) (And.intro (Le.mk hB [0, 1] ⟨rfl, rfl, rfl, rfl, trivial⟩ rfl (by dsimp only; rw [cntP_take (by omega)]; rfl) (Nat.le_refl _)) (by first | omega | (show _ < _; omega) | (simp only []; omega)))
  ·have aH1 := aH1b
   try simp only [qq] at aH1
   refine VC.exit ?_
   refine VC.seq ?_
   have hqe : p.places.take q = p.places := List.take_of_length_le (by omega)
   rw [hqe]
   have hcl := cntP_len p.places
   refine VC.region ?_
   refine VO.mb ?_
   refine VO.nil ?_
   refine VC.seq ?_
   refine VC.sr ?_
   refine VO.mw ?_
   refine VO.op rfl (OpE.callH rfl hB rfl Tryz.call165 rfl rfl (maps_Keys_int (some g16)) (List.Perm.refl _) (fun _ _ => trivial) ?_)
   rintro _ _ ⟨g31, rfl, rfl⟩
   refine VO.op rfl (OpE.callH (rest := [_]) rfl hB rfl Tryz.call140 rfl rfl (slices_Sorted_int (l := cntP p.places) (E := eI) (cntP_nodup _) (by have := cnt_key_small hs p.places.length; rwa [List.take_length] at this) (by omega)) (List.Perm.cons _ (List.Perm.swap _ _ _)) (fun _ _ => trivial) ?_)
   rintro _ _ ⟨u32, rfl, rfl⟩
   refine VO.le _ (Le.rowS (t := 32) (i := 0) hB hnew rfl rfl (sKeys_len _).symm) ?_
   obtain ⟨m, hm⟩ : ∃ m, cntP p.places = m := ⟨_, rfl⟩
   obtain ⟨ks, hks⟩ : ∃ ks, sKeys (cntP p.places) = ks := ⟨_, rfl⟩
   have hkl : ks.length = (cntP p.places).length := by rw [← hks, sKeys_len]
   rw [hks]
   refine VO.vv (OpV.len_im rfl Tryz.underlying82 rfl) ?_
   refine VO.mw ?_
   refine VO.nil ?_
   refine VC.block ?_
   refine VC.le _ (Le.nilRow 2 90) ?_
   refine VC.loopK [(5, _), (32, _), (33, _)] ⟨rfl, rfl, rfl, trivial⟩ ({z : Value × Nat // z.2 ≤ ks.length}) (fun (iZ : {z : Value × Nat // z.2 ≤ ks.length}) => match iZ with | ⟨⟨u, r⟩, hr⟩ => [(8, .v u), (34, avI (r : Int))]) (fun (iZ : {z : Value × Nat // z.2 ≤ ks.length}) => match iZ with | ⟨⟨u, r⟩, hr⟩ => [mapE kvS g16 eI (cntP p.places), .row u r 2 (rowL ((needsL p).take r)) 90]) (fun (iZ : {z : Value × Nat // z.2 ≤ ks.length}) => match iZ with | ⟨⟨u, r⟩, hr⟩ => 0) (fun (iZ : {z : Value × Nat // z.2 ≤ ks.length}) => match iZ with | ⟨⟨u, r⟩, hr⟩ => ks.length - r) ⟨(.slice none 0 0, 0), Nat.zero_le _⟩ (Le.mk hB [1, 3] ⟨rfl, rfl, rfl, rfl, rfl, trivial⟩ rfl rfl (Nat.le_refl _)) ?_
   rintro ⟨⟨u, r⟩, hr⟩
   show VC _ _ _ _ ⟨[(8, .v u), (34, avI (r : Int))] ++ [(5, _), (32, _), (33, _)], [mapE kvS g16 eI (cntP p.places), .row u r 2 (rowL ((needsL p).take r)) 90], 0⟩
   simp only at hr
   refine VC.sr ?_
   refine VO.vv (OpV.lss rfl rfl rfl) ?_
   refine VO.nil ?_
   refine VC.seq ?_
   refine VC.cond rfl (fun aH2b => ?_) (fun aH2b => ?_)
   ·have aH2 := aH2b
    try simp only [qq] at aH2
    refine VC.skip ?_
    refine VC.seq ?_
    refine VC.block ?_
    refine VC.sr ?_
    refine VO.vv (OpV.indexAddr_1 rfl Tryz.underlying82 Tryz.sizeOf9 rfl rfl rfl (by omega)) ?_
    refine VO.vv (OpV.load_at rfl hB OutW.no Tryz.isAgg9 rfl rfl) ?_
    refine VO.mb ?_
    refine VO.nil ?_
    refine VC.region ?_
    refine VO.mw ?_
    refine VO.mw ?_
    refine VO.mw ?_
    refine VO.mw ?_
    refine VO.vv (OpV.lookup_own (i := 0) rfl hB Tryz.underlying208 (KeyOk.str Tryz.underlying9) Tryz.zeroValue3 rfl (KeyE.v rfl) rfl (fun h => h)) ?_
    refine VO.le _ (Le.recast (t := 42) (y := avI (mgetD (cntP p.places) (ks.getD r ByteArray.empty) 0)) rfl (fun w Z u h => by unfold mgetD; revert h; cases mget (cntP p.places) (ks.getD r ByteArray.empty) <;> exact id)) ?_
    refine VO.vv (OpV.build (pls := #[(0, 1), (1, 1)]) rfl Tryz.zeroValue90 Tryz.underlying90 (fun w => by kernel_rfl) rfl rfl) ?_
    refine VO.op rfl (OpE.buildSlice (zc := #[.string ⟨#[]⟩, .int .i64 0]) rfl hB rfl Tryz.underlying68 Tryz.sizeOf90 Tryz.zeroValue90 (by decide) (by decide) (by kernel_rfl) rfl rfl ?_)
    refine VO.op rfl (OpE.append1 (i := 1) rfl hB rfl Tryz.underlying68 (infoOf Tryz.t90 2 (by kernel_rfl) rfl rfl) rfl (by decide) (by decide) rfl rfl rfl rfl (rowL_snoc _ (⟨ks.getD r ByteArray.empty, mgetD (cntP p.places) (ks.getD r ByteArray.empty) 0⟩ : NeedS)) (by omega) (fun _ _ => trivial) ?_)
    intro u2
    refine VO.mb ?_
    refine VO.nil ?_
    refine VC.region ?_
    refine VO.vv (OpV.add rfl rfl rfl (by unfold fits; omega)) ?_
    refine VO.mw ?_
    refine VO.nil ?_
    exact Exists.intro (⟨(u2, r + 1), by show r + 1 ≤ _; omega⟩) (And.intro (Le.mk hB [0, 1] ⟨rfl, rfl, rfl, rfl, rfl, trivial⟩ rfl (by dsimp only; rw [needs_take (by rw [hks]; omega), hks]; rfl) (Nat.le_refl _)) (by first | omega | (show _ < _; omega) | (simp only []; omega)))
   ·have aH2 := aH2b
    try simp only [qq] at aH2
    refine VC.exit ?_
    refine VC.seq ?_
    have hre : r = (needsL p).length := by rw [needsL_len]; omega
    have hrt : (needsL p).take r = needsL p := List.take_of_length_le (by omega)
    rw [hrt]
    refine VC.region ?_
    refine VO.mw ?_
    refine VO.mb ?_
    refine VO.mb ?_
    refine VO.nil ?_
    refine VC.ret ?_
    exact Exists.intro _ (And.intro (RetN.two Tryz.results83 (ResN.rowT (i := 1) (xs := needsL p) rfl rfl hre (flat_need _)) (ResN.v rfl)) (by first | (rw [needsR, if_neg h0]; rfl) | (rw [needsR, if_pos h00, h00])))
end
section
structure BodyS where
 part : ByteArray
 wide : Int
 high : Int
instance : Inhabited BodyS := ⟨⟨ByteArray.empty, 0, 0⟩⟩
instance : Sxc BodyS where
 k := 3
 pos := by decide
 cell m j := match j with
  | 0 => avS m.part
  | 1 => avI m.wide
  | 2 => avI m.high
  | _ => .any
section
variable {l : List BodyS} {i : Nat}
end
end
section
structure SlotS where
 x : Int
 y : Int
 quarter : Int
 skip : Bool
instance : Inhabited SlotS := ⟨⟨0, 0, 0, false⟩⟩
instance : Sxc SlotS where
 k := 4
 pos := by decide
 cell m j := match j with
  | 0 => avI m.x
  | 1 => avI m.y
  | 2 => avI m.quarter
  | 3 => avB m.skip
  | _ => .any
structure PanS where
 wide : Int
 high : Int
 slots : List SlotS
section
variable {n : PanS}
end
end
section
section
variable {P : Program} {B : Bs} {s : St'} {o : Oper} {K : St' → Prop} {V : Nat → Nat → Prop} {ops : Array Oper} {Q : Exit → St' → Prop} {n N : Nat} {L : Array Bool}
def VN (P : Program) (B : Bs) (V : Nat → Nat → Prop) (ops : Array Oper) (Q : Exit → St' → Prop) (n : Nat) (L : Array Bool) (s : St') (N : Nat) : Prop :=
 ∀ a w, R B s a w → w.heap.size = N → wpAnyE P .any ops (fun a w => ∃ s, Q .normal s ∧ R B s a w) (fun j => Ew B (V j)) n L a w
def VM (P : Program) (B : Bs) (V : Nat → Nat → Prop) (ops : Array Oper) (Q : Exit → St' → Prop) (n : Nat) (L : Array Bool) (s : St') (N : Nat) : Prop :=
 ∀ a w, R B s a w → N ≤ w.heap.size → wpAnyE P .any ops (fun a w => ∃ s, Q .normal s ∧ R B s a w) (fun j => Ew B (V j)) n L a w
def OpVN (P : Program) (B : Bs) (W : Nat → Prop) (s : St') (o : Oper) (x : AV) (N : Nat) : Prop :=
 ∀ a w, R B s a w → w.heap.size = N → ∃ v, (∀ w', Chg (fun b => B.str b ∨ W b) w w' → (execOp a.eval o).run P w' = .ok (.value v) w') ∧ Rep w (Zn B s.hp w) x v
theorem OpVN.of {W : Nat → Prop} {x : AV} (h : OpV P B W s o x) : OpVN P B W s o x N := fun a w hr _ => h a w hr
theorem new_keep {W : Nat → Prop} (hB : B.Ok) {a : Act} {w w' : World} (hr : R B s a w) (hW : ∀ b, W b → w.heap.size ≤ b) (hc : Chg (fun b => B.str b ∨ W b) w w') {b : Nat} (hZ : Zn B s.hp w b) : w'.heap[b]? = w.heap[b]? := by
 refine hc.block b hZ.1 ?_
 rintro (h | h)
 ·obtain ⟨h1, h2⟩ := hB.str b h
  exact (hZ.2.2 (hB.low b h1)).2 h
 ·exact absurd hZ.1 (Nat.not_lt.2 (hW b h))
theorem OpVN.loadK_at {W : Nat → Prop} {x : Operand} {t m k : Nat} {F : Nat → AV} (ho : o.op = .load t x) (hB : B.Ok) (hW : ∀ b, W b → N ≤ b) (hag : ∀ w, (isAgg t).run P w = .ok true w) (hsz : ∀ w, (sizeOf t).run P w = .ok k w) (hx : evO s x = some (.at_ m F)) (hm : Nat.ble k m = true) : OpVN P B W s o (.agg (tab k F)) N := by
 intro a w hr hN
 have := hr.ev hx
 generalize hv : a.eval x = u at this
 have hm' := Nat.le_of_ble_eq_true hm
 cases this with
 | at_ m f' b off c e u hZ hb hc hr' =>
  refine ⟨.agg ((List.range k).map u).toArray, fun w' hcw => ?_, .agg _ _ (by simp [tab_len]) fun j hj => ?_⟩
  ·have hb' := (new_keep hB hr (fun b h => hN ▸ hW b h) hcw hZ).trans hb
   have hcell : ∀ j v, ((List.range k).map u)[j]? = some v → w'.cell? ((⟨b, off, none⟩ : Addr).add j) = some v := by
    intro j v hj
    simp only [List.getElem?_map, Option.map_eq_some_iff] at hj
    obtain ⟨q, hq, rfl⟩ := hj
    obtain ⟨hlt, hq'⟩ := List.getElem?_eq_some_iff.1 hq
    simp at hlt hq'
    subst hq'
    rw [Addr.add_lit]
    simpa [World.cell?, hb'] using hc j (by omega)
   have hl := run_loadCells_list (P := P) w' ⟨b, off, none⟩ _ hcell
   simp only [List.length_map, List.length_range] at hl
   simp only [execOp, ho, hv, Instr.loadAt, Instr.sureAddr, loadVar, hag, hsz, hl, Sem.run_bind, Sem.run_pure, Result.andThen_ok, if_true]
  ·rw [tab_len] at hj
   rw [tab_get]
   simp [hj]
   exact hr' j (by omega)
theorem VN.take {i : Nat} {x : AV} (hi : ops[i]? = some o) (hs : Region.noSelect ops = true) (hf : Region.free .any ops L i = true) (hr : (Region.ready .any ops L).contains i = true) (hg : o.guard = none) (hd : okd B.nt o.dst = true)
  (hv : OpVN P B (Wi V ops i) s o x N) (h : VN P B V ops Q n (L.setIfInBounds i true) (s.put o.dst x) N) : VN P B V ops Q (n + 1) L s N := fun a w hR hN => by
 obtain ⟨v, h1, h2⟩ := hv a w hR hN
 exact wpAnyE_first (F := Ew B (Wi V ops i)) Ew.tr Ew.rf (fun x => Ew.rf x) Wi.of hi (Region.noSelect_spec hs) n L a w (Region.free_spec hi hf) (by simpa using hr) (.inl ⟨by simp [Region.wanted, hg], h1⟩) (h _ _ (hR.put _ hd _ _ h2) hN)
theorem VM.take {i : Nat} {x : AV} (hi : ops[i]? = some o) (hs : Region.noSelect ops = true) (hf : Region.free .any ops L i = true) (hr : (Region.ready .any ops L).contains i = true) (hg : o.guard = none) (hd : okd B.nt o.dst = true)
  (hv : OpV P B (Wi V ops i) s o x) (h : VM P B V ops Q n (L.setIfInBounds i true) (s.put o.dst x) N) : VM P B V ops Q (n + 1) L s N := fun a w hR hN => by
 obtain ⟨v, h1, h2⟩ := hv a w hR
 exact wpAnyE_first (F := Ew B (Wi V ops i)) Ew.tr Ew.rf (fun x => Ew.rf x) Wi.of hi (Region.noSelect_spec hs) n L a w (Region.free_spec hi hf) (by simpa using hr) (.inl ⟨by simp [Region.wanted, hg], h1⟩) (h _ _ (hR.put _ hd _ _ h2) hN)
theorem VM.done (hr : Region.ready .any ops L = []) (h : Q .normal s) : VM P B V ops Q n L s N := fun a w hR _ => by
 cases n with
 | zero => exact ⟨hr, s, h, hR⟩
 | succ n => exact ⟨fun _ => ⟨s, h, hR⟩, by rw [hr]; simp⟩
def OpM (P : Program) (B : Bs) (W : Nat → Prop) (s : St') (o : Oper) (K : St' → Prop) (N : Nat) : Prop :=
 ∀ a w, R B s a w → N ≤ w.heap.size → ∀ (next : Act → World → Prop) (Qx : Exit → Act → World → Prop), (∀ s' a' w', K s' → R B s' a' w' → Ew B W w w' → next a' w') → o.wp P a w next Qx
theorem OpM.of {W : Nat → Prop} (h : OpE P B W s o K) : OpM P B W s o K N := fun a w hr _ => h a w hr
theorem OpM.alloc {W : Nat → Prop} {e : TypeId} {z : Value} {cs : List AV} (ho : o.op = .alloc e) (hB : B.Ok) (hd : okd B.nt o.dst = true) (hz : ∀ w, (zeroValue e).run P w = .ok z w) (hcs : cellsOf (.v z) = cs)
  (hK : ∀ g, N ≤ g → K ((St'.mk s.sl (s.hp ++ [.box g ⟨cs, e, cs.length⟩]) s.k).put o.dst (.v (.pointer (some ⟨g, 0, none⟩))))) : OpM P B W s o K N := by
 subst hcs
 intro a w hr hN next Qx hn
 have h1 := hr.newBox hB _ e _ (Rep.cells (.v z) rfl)
 unfold Oper.wp
 simp only [execOp, ho, Instr.alloc, newVar, newRow, Sem.run_bind, hz, run_newObj_alloc, Result.andThen_ok, Sem.run_pure]
 exact hn _ _ _ (hK _ hN) (h1.put _ hd _ _ (.v _)) (.ofN ((Chg.refl _ _).alloc _))
def EachM (P : Program) (B : Bs) (V : Nat → Nat → Prop) (ops : Array Oper) (Q : Exit → St' → Prop) (n : Nat) (L : Array Bool) (s : St') (N : Nat) : List Nat → Prop
 | [] => True
 | i :: r => (∃ o, ops[i]? = some o ∧ o.guard = none ∧ OpM P B (V i) s o (fun s' => VM P B V ops Q n (L.setIfInBounds i true) s' N) N) ∧ EachM P B V ops Q n L s N r
theorem VM.all {rs : List Nat} (hr : Region.ready .any ops L = rs) (hne : rs ≠ []) (h : EachM P B V ops Q n L s N rs) : VM P B V ops Q (n + 1) L s N := fun a w hR hN => by
 refine ⟨fun h0 => absurd (hr ▸ h0) hne, fun i hi => ?_⟩
 rw [hr] at hi
 have key : ∀ rs, EachM P B V ops Q n L s N rs → i ∈ rs → ∃ o, ops[i]? = some o ∧ o.guard = none ∧ OpM P B (V i) s o (fun s' => VM P B V ops Q n (L.setIfInBounds i true) s' N) N := by
  intro rs
  induction rs with
  | nil => intro _ h; simp at h
  | cons j r ih =>
   intro h hi
   rcases List.mem_cons.1 hi with rfl | hi
   ·exact h.1
   ·exact ih h.2 hi
 obtain ⟨o, ho, hg, hop⟩ := key rs h hi
 unfold wpOp
 simp only [ho]
 have hwant : Region.wanted o (yielded ops a.tmps) = true := by simp [Region.wanted, hg]
 rw [if_pos hwant]
 exact .inl (hop a w hR hN _ _ fun s' a' w' k1 k2 k3 => ⟨k3, k1 a' w' k2 (Nat.le_trans hN k3.size)⟩)
theorem VM.le {s' : St'} (h : Le B s s') (k : VM P B V ops Q n L s' N) : VM P B V ops Q n L s N := fun a w hr => k a w (h a w hr)
end
end
section
abbrev avNd (x : NeedS) : AV := .agg (tab 2 (Sxc.cell x))
set_option maxHeartbeats 2000000 in
theorem insSort_need {l0 : List NeedS} {u : Value} {ty : TypeId} {F : FuncId} {cs : List AV} {c : NeedS → NeedS → Int} (hl : l0.length ≤ 1000000) (hcall : ∀ us w, (callFunc F us).run Tryz.prog w = .ok (.enter F us) w) (hF : ∀ x y, Spec Tryz.prog F ([avNd x, avNd y] ++ cs) (fun z => z = avI (c x y))) (ht : ∀ {a b d : NeedS}, decide (c a b < 0) = true → decide (c b d < 0) = true → decide (c a d < 0) = true) (ha : ∀ {a b : NeedS}, decide (c a b < 0) = true → decide (c b a < 0) = false) (hn : ∀ {a b d : NeedS}, decide (c b a < 0) = false → decide (c d b < 0) = false → decide (c d a < 0) = false) :
  SpecH Tryz.prog 261 [.v u, avI 0, avI l0.length, .fn F cs] [.row u l0.length 2 (rowL l0) ty] (fun y hp' => ∃ l, (l.Perm l0 ∧ OrdL (fun x y => decide (c x y < 0)) l) ∧ y = .tup [] ∧ hp' = [.row u l0.length 2 (rowL l) ty]) := by
 refine SpecH.of_VC Tryz.func261 rfl Tryz.ntmps261 (Nle rfl) fun w A hB => ?_
 refine VC.sr ?_
 refine VO.mw ?_
 refine VO.vv (OpV.add rfl rfl rfl (by unfold fits; omega)) ?_
 refine VO.mb ?_
 refine VO.nil ?_
 refine VC.block ?_
 refine VC.loopK [(0, _), (1, _), (2, _), (3, _)] ⟨rfl, rfl, rfl, rfl, trivial⟩ ({z : Nat × List NeedS // InvO (fun x y => decide (c x y < 0)) l0 z.1 z.2 ∧ 0 < z.1 ∧ z.1 ≤ max 1 l0.length}) (fun (iZ : {z : Nat × List NeedS // InvO (fun x y => decide (c x y < 0)) l0 z.1 z.2 ∧ 0 < z.1 ∧ z.1 ≤ max 1 l0.length}) => match iZ with | ⟨⟨i, l⟩, hi, hi0, hin⟩ => [(8, avI (i : Int))]) (fun (iZ : {z : Nat × List NeedS // InvO (fun x y => decide (c x y < 0)) l0 z.1 z.2 ∧ 0 < z.1 ∧ z.1 ≤ max 1 l0.length}) => match iZ with | ⟨⟨i, l⟩, hi, hi0, hin⟩ => [.row u l0.length 2 (rowL l) ty]) (fun (iZ : {z : Nat × List NeedS // InvO (fun x y => decide (c x y < 0)) l0 z.1 z.2 ∧ 0 < z.1 ∧ z.1 ≤ max 1 l0.length}) => match iZ with | ⟨⟨i, l⟩, hi, hi0, hin⟩ => 0) (fun (iZ : {z : Nat × List NeedS // InvO (fun x y => decide (c x y < 0)) l0 z.1 z.2 ∧ 0 < z.1 ∧ z.1 ≤ max 1 l0.length}) => match iZ with | ⟨⟨i, l⟩, hi, hi0, hin⟩ => l0.length - i) ⟨(1, l0), InvO.one l0, Nat.one_pos, by show 1 ≤ _; omega⟩ (Le.mk hB [0] ⟨rfl, rfl, rfl, rfl, rfl, trivial⟩ rfl rfl (Nat.le_refl _)) ?_
 rintro ⟨⟨i, l⟩, hi, hi0, hin⟩
 show VC _ _ _ _ ⟨[(8, avI (i : Int))] ++ [(0, _), (1, _), (2, _), (3, _)], [.row u l0.length 2 (rowL l) ty], 0⟩
 simp only at hi hi0 hin
 have hll := hi.len
 refine VC.seq ?_
 refine VC.sr ?_
 refine VO.mw ?_
 refine VO.mw ?_
 refine VO.vv (OpV.lss rfl rfl rfl) ?_
 refine VO.nil ?_
 refine VC.cond rfl (fun aH1b => ?_) (fun aH1b => ?_)
 ·have aH1 := aH1b
  try simp only [qq] at aH1
  refine VC.skip ?_
  refine VC.seq ?_
  refine VC.block ?_
  refine VC.sr ?_
  refine VO.mw ?_
  refine VO.mb ?_
  refine VO.nil ?_
  refine VC.block ?_
  refine VC.asBox (i := 0) rfl (by omega) (fun g cap hu hcap hmx => ?_)
  subst hu
  refine VC.loopK [(0, _), (1, _), (2, _), (3, _), (8, _)] ⟨rfl, rfl, rfl, rfl, rfl, trivial⟩ ({z : Nat × List NeedS // InvI (fun x y => decide (c x y < 0)) l0 i z.1 z.2}) (fun (iZ : {z : Nat × List NeedS // InvI (fun x y => decide (c x y < 0)) l0 i z.1 z.2}) => match iZ with | ⟨⟨j, l2⟩, hI⟩ => [(9, avI (j : Int))]) (fun (iZ : {z : Nat × List NeedS // InvI (fun x y => decide (c x y < 0)) l0 i z.1 z.2}) => match iZ with | ⟨⟨j, l2⟩, hI⟩ => [.box g ⟨rowL l2, ty, cap * 2⟩]) (fun (iZ : {z : Nat × List NeedS // InvI (fun x y => decide (c x y < 0)) l0 i z.1 z.2}) => match iZ with | ⟨⟨j, l2⟩, hI⟩ => 0) (fun (iZ : {z : Nat × List NeedS // InvI (fun x y => decide (c x y < 0)) l0 i z.1 z.2}) => match iZ with | ⟨⟨j, l2⟩, hI⟩ => j) ⟨(i, l), hi.start (by omega)⟩ (Le.mk hB [0] ⟨rfl, rfl, rfl, rfl, rfl, rfl, trivial⟩ rfl rfl (Nat.le_refl _)) ?_
  rintro ⟨⟨j, l2⟩, hI⟩
  show VC _ _ _ _ ⟨[(9, avI (j : Int))] ++ [(0, _), (1, _), (2, _), (3, _), (8, _)], [.box g ⟨rowL l2, ty, cap * 2⟩], 0⟩
  simp only at hI
  obtain ⟨hlen2, hil, hji⟩ := hI.len
  refine VC.seq ?_
  refine VC.seq ?_
  refine VC.draw (fun _ => NoB) hB (by kernel_rfl) ?_
  refine VA.tk (i := 0) rfl (OpV.move (.inl rfl) rfl) ?_
  refine VA.tk (i := 1) rfl (OpV.move (.inl rfl) rfl) ?_
  refine VA.tk (i := 2) rfl (OpV.gtr rfl rfl rfl) ?_
  refine VA.tk (i := 3) rfl (OpV.move (.inl rfl) rfl) ?_
  refine VA.split (t := 21) rfl (fun aK2b => ?_) (fun aK2b => ?_)
  ·have aK2 := aK2b
   try simp only [qq] at aK2
   refine VA.takeY (i := 4) rfl (by kernel_rfl) (by kernel_rfl) (by kernel_rfl) rfl rfl rfl rfl aK2b (OpV.move (.inl rfl) rfl) ?_
   refine VA.takeY (i := 5) rfl (by kernel_rfl) (by kernel_rfl) (by kernel_rfl) rfl rfl rfl rfl aK2b (OpV.move (.inl rfl) rfl) ?_
   refine VA.takeY (i := 6) rfl (by kernel_rfl) (by kernel_rfl) (by kernel_rfl) rfl rfl rfl rfl aK2b (OpV.move (.inl rfl) rfl) ?_
   refine VA.takeY (i := 7) rfl (by kernel_rfl) (by kernel_rfl) (by kernel_rfl) rfl rfl rfl rfl aK2b (OpV.indexAddr_q rfl Tryz.underlying68 Tryz.sizeOf90 rfl rfl rfl (by omega)) ?_
   refine VA.takeY (i := 8) rfl (by kernel_rfl) (by kernel_rfl) (by kernel_rfl) rfl rfl rfl rfl aK2b (OpV.loadK_own (i := 0) rfl hB Tryz.isAgg90 Tryz.sizeOf90 rfl rfl (rowL_cut rfl (by omega)) Wi.not0) ?_
   refine VA.takeY (i := 9) rfl (by kernel_rfl) (by kernel_rfl) (by kernel_rfl) rfl rfl rfl rfl aK2b (OpV.move (.inl rfl) rfl) ?_
   refine VA.takeY (i := 10) rfl (by kernel_rfl) (by kernel_rfl) (by kernel_rfl) rfl rfl rfl rfl aK2b (OpV.move (.inl rfl) rfl) ?_
   refine VA.takeY (i := 11) rfl (by kernel_rfl) (by kernel_rfl) (by kernel_rfl) rfl rfl rfl rfl aK2b (OpV.sub rfl rfl rfl (by unfold fits; omega)) ?_
   refine VA.takeY (i := 12) rfl (by kernel_rfl) (by kernel_rfl) (by kernel_rfl) rfl rfl rfl rfl aK2b (OpV.indexAddr_q rfl Tryz.underlying68 Tryz.sizeOf90 rfl rfl (show (j : Int) - 1 = ((j - 1 : Nat) : Int) by omega) (by omega)) ?_
   refine VA.takeY (i := 13) rfl (by kernel_rfl) (by kernel_rfl) (by kernel_rfl) rfl rfl rfl rfl aK2b (OpV.loadK_own (i := 0) rfl hB Tryz.isAgg90 Tryz.sizeOf90 rfl rfl (rowL_cut rfl (by omega)) Wi.not0) ?_
   refine VA.all (rs := [14]) (by kernel_rfl) (by decide) ?_
   refine ⟨⟨_, rfl, .inr ⟨_, _, _, rfl, rfl, (look_k rfl aK2b)⟩, ?_⟩, trivial⟩
   refine OpE.callF rfl hB rfl hcall rfl rfl (hF _ _) ?_
   rintro _ rfl
   refine VA.takeY (i := 15) rfl (by kernel_rfl) (by kernel_rfl) (by kernel_rfl) rfl rfl rfl rfl aK2b (OpV.lss rfl rfl rfl) ?_
   refine VA.tk (i := 16) rfl (OpV.pickT rfl rfl rfl rfl aK2b) ?_
   refine VA.done (by kernel_rfl) ?_
   refine VC.cond rfl (fun hcb => ?_) (fun hcb => ?_)
   ·have hc := hcb
    try simp only [qq] at hc
    refine VC.skip ?_
    refine VC.seq ?_
    refine VC.block ?_
    refine VC.draw (fun j b => j ∈ [15, 17] ∧ b = g) hB (by kernel_rfl) ?_
    refine VA.tk (i := 0) rfl (OpV.move (.inl rfl) rfl) ?_
    refine VA.tk (i := 1) rfl (OpV.move (.inl rfl) rfl) ?_
    refine VA.tk (i := 2) rfl (OpV.move (.inl rfl) rfl) ?_
    refine VA.tk (i := 3) rfl (OpV.move (.inl rfl) rfl) ?_
    refine VA.tk (i := 4) rfl (OpV.sub rfl rfl rfl (by unfold fits; omega)) ?_
    refine VA.tk (i := 5) rfl (OpV.move (.inl rfl) rfl) ?_
    refine VA.tk (i := 6) rfl (OpV.move (.inl rfl) rfl) ?_
    refine VA.tk (i := 7) rfl (OpV.sub rfl rfl rfl (by unfold fits; omega)) ?_
    refine VA.tk (i := 8) rfl (OpV.indexAddr_q rfl Tryz.underlying68 Tryz.sizeOf90 rfl rfl (show (j : Int) - 1 = ((j - 1 : Nat) : Int) by omega) (by omega)) ?_
    refine VA.tk (i := 9) rfl (OpV.loadK_own (i := 0) rfl hB Tryz.isAgg90 Tryz.sizeOf90 rfl rfl (rowL_cut rfl (by omega)) (Wi.notD (by kernel_rfl))) ?_
    refine VA.tk (i := 10) rfl (OpV.move (.inl rfl) rfl) ?_
    refine VA.tk (i := 11) rfl (OpV.move (.inl rfl) rfl) ?_
    refine VA.tk (i := 12) rfl (OpV.indexAddr_q rfl Tryz.underlying68 Tryz.sizeOf90 rfl rfl rfl (by omega)) ?_
    refine VA.tk (i := 13) rfl (OpV.loadK_own (i := 0) rfl hB Tryz.isAgg90 Tryz.sizeOf90 rfl rfl (rowL_cut rfl (by omega)) (Wi.notD (by kernel_rfl))) ?_
    refine VA.tk (i := 14) rfl (OpV.indexAddr_q rfl Tryz.underlying68 Tryz.sizeOf90 rfl rfl rfl (by omega)) ?_
    refine VA.all (rs := [15]) (by kernel_rfl) (by decide) ?_
    refine ⟨⟨_, rfl, .inl rfl, ?_⟩, trivial⟩
    refine OpE.storeE (i := 0) rfl hB rfl Tryz.sizeOf90 rfl rfl rfl rfl rfl rfl (rowL_inE rfl (by omega)) (rowL_setAll (x := l2.getD (j - 1) default) rfl (by omega)) (by first | exact ⟨rfl, rfl⟩ | exact .inl ⟨rfl, rfl⟩ | exact .inr ⟨rfl, rfl⟩ | exact ⟨rfl, trivial⟩ | exact .inl ⟨rfl, trivial⟩ | exact .inr ⟨rfl, trivial⟩ | exact ⟨by decide, rfl⟩) ?_
    refine VA.tk (i := 16) rfl (OpV.indexAddr_q rfl Tryz.underlying68 Tryz.sizeOf90 rfl rfl (show (j : Int) - 1 = ((j - 1 : Nat) : Int) by omega) (by omega)) ?_
    refine VA.all (rs := [17]) (by kernel_rfl) (by decide) ?_
    refine ⟨⟨_, rfl, .inl rfl, ?_⟩, trivial⟩
    refine OpE.storeE (i := 0) rfl hB rfl Tryz.sizeOf90 rfl rfl rfl rfl rfl rfl (rowL_inE rfl (by rw [List.length_set]; omega)) (rowL_setAll (x := l2.getD j default) rfl (by rw [List.length_set]; omega)) (by first | exact ⟨rfl, rfl⟩ | exact .inl ⟨rfl, rfl⟩ | exact .inr ⟨rfl, rfl⟩ | exact ⟨rfl, trivial⟩ | exact .inl ⟨rfl, trivial⟩ | exact .inr ⟨rfl, trivial⟩ | exact ⟨by decide, rfl⟩) ?_
    refine VA.done (by kernel_rfl) ?_
    refine VC.region ?_
    refine VO.mw ?_
    refine VO.vv (OpV.sub rfl rfl rfl (by unfold fits; omega)) ?_
    refine VO.mb ?_
    refine VO.nil ?_
    exact Exists.intro (⟨(j - 1, (l2.set j (l2.getD (j - 1) default)).set (j - 1) (l2.getD j default)), hI.next ht (by omega) (decide_eq_true hc)⟩) (And.intro (Le.mk hB [0] ⟨(by rw [show ((j - 1 : Nat) : Int) = (j : Int) - 1 by omega]; rfl), rfl, rfl, rfl, rfl, rfl, trivial⟩ rfl rfl (Nat.le_refl _)) (by first | omega | (show _ < _; omega) | (simp only []; omega)))
   ·have hc := hcb
    try simp only [qq] at hc
    have hex : j = 0 ∨ decide (c (l2.getD j default) (l2.getD (j - 1) default) < 0) = false := by first | exact .inl (by omega) | exact .inr (decide_eq_false (by omega))
    refine VC.le _ (Le.boxRow (i := 0) (n := l0.length) rfl (by rw [rowL_len, hlen2]; rfl) hcap hmx) ?_
    refine VC.exit ?_
    refine VC.region ?_
    refine VO.mw ?_
    refine VO.vv (OpV.add rfl rfl rfl (by unfold fits; omega)) ?_
    refine VO.mb ?_
    refine VO.nil ?_
    exact Exists.intro (⟨(i + 1, l2), hI.done ha hn hex, Nat.succ_pos _, by show i + 1 ≤ _; omega⟩) (And.intro (Le.mk hB [0] ⟨rfl, rfl, rfl, rfl, rfl, trivial⟩ rfl (by first | rfl | assumption) (Nat.le_refl _)) (by first | omega | (show _ < _; omega) | (simp only []; omega)))
  ·have aK2 := aK2b
   try simp only [qq] at aK2
   refine VA.takeX (i := 4) rfl (by kernel_rfl) (by kernel_rfl) (by kernel_rfl) rfl rfl rfl rfl aK2b ?_
   refine VA.takeX (i := 5) rfl (by kernel_rfl) (by kernel_rfl) (by kernel_rfl) rfl rfl rfl rfl aK2b ?_
   refine VA.takeX (i := 6) rfl (by kernel_rfl) (by kernel_rfl) (by kernel_rfl) rfl rfl rfl rfl aK2b ?_
   refine VA.takeX (i := 7) rfl (by kernel_rfl) (by kernel_rfl) (by kernel_rfl) rfl rfl rfl rfl aK2b ?_
   refine VA.takeX (i := 8) rfl (by kernel_rfl) (by kernel_rfl) (by kernel_rfl) rfl rfl rfl rfl aK2b ?_
   refine VA.takeX (i := 9) rfl (by kernel_rfl) (by kernel_rfl) (by kernel_rfl) rfl rfl rfl rfl aK2b ?_
   refine VA.takeX (i := 10) rfl (by kernel_rfl) (by kernel_rfl) (by kernel_rfl) rfl rfl rfl rfl aK2b ?_
   refine VA.takeX (i := 11) rfl (by kernel_rfl) (by kernel_rfl) (by kernel_rfl) rfl rfl rfl rfl aK2b ?_
   refine VA.takeX (i := 12) rfl (by kernel_rfl) (by kernel_rfl) (by kernel_rfl) rfl rfl rfl rfl aK2b ?_
   refine VA.takeX (i := 13) rfl (by kernel_rfl) (by kernel_rfl) (by kernel_rfl) rfl rfl rfl rfl aK2b ?_
   refine VA.takeX (i := 14) rfl (by kernel_rfl) (by kernel_rfl) (by kernel_rfl) rfl rfl rfl rfl aK2b ?_
   refine VA.takeX (i := 15) rfl (by kernel_rfl) (by kernel_rfl) (by kernel_rfl) rfl rfl rfl rfl aK2b ?_
   refine VA.tk (i := 16) rfl (OpV.pickF rfl rfl rfl rfl aK2b) ?_
   refine VA.done (by kernel_rfl) ?_
   refine VC.condF rfl rfl ?_
   have hex : j = 0 ∨ decide (c (l2.getD j default) (l2.getD (j - 1) default) < 0) = false := by first | exact .inl (by omega) | exact .inr (decide_eq_false (by omega))
   refine VC.le _ (Le.boxRow (i := 0) (n := l0.length) rfl (by rw [rowL_len, hlen2]; rfl) hcap hmx) ?_
   refine VC.exit ?_
   refine VC.region ?_
   refine VO.mw ?_
   refine VO.vv (OpV.add rfl rfl rfl (by unfold fits; omega)) ?_
   refine VO.mb ?_
   refine VO.nil ?_
   exact Exists.intro (⟨(i + 1, l2), hI.done ha hn hex, Nat.succ_pos _, by show i + 1 ≤ _; omega⟩) (And.intro (Le.mk hB [0] ⟨rfl, rfl, rfl, rfl, rfl, trivial⟩ rfl (by first | rfl | assumption) (Nat.le_refl _)) (by first | omega | (show _ < _; omega) | (simp only []; omega)))
 ·have aH1 := aH1b
  try simp only [qq] at aH1
  refine VC.exit ?_
  exact Exists.intro _ (And.intro (RetV.none Tryz.results261) (⟨l, hi.all (by omega), rfl, rfl⟩))
theorem pdqSort_need {l0 : List NeedS} {u : Value} {ty : TypeId} {F : FuncId} {cs : List AV} {c : NeedS → NeedS → Int} {k : Int} (hl : l0.length ≤ 12) (hcall : ∀ us w, (callFunc F us).run Tryz.prog w = .ok (.enter F us) w) (hF : ∀ x y, Spec Tryz.prog F ([avNd x, avNd y] ++ cs) (fun z => z = avI (c x y))) (ht : ∀ {a b d : NeedS}, decide (c a b < 0) = true → decide (c b d < 0) = true → decide (c a d < 0) = true) (ha : ∀ {a b : NeedS}, decide (c a b < 0) = true → decide (c b a < 0) = false) (hn : ∀ {a b d : NeedS}, decide (c b a < 0) = false → decide (c d b < 0) = false → decide (c d a < 0) = false) :
  SpecH Tryz.prog 194 [.v u, avI 0, avI l0.length, avI k, .fn F cs] [.row u l0.length 2 (rowL l0) ty] (fun y hp' => ∃ l, (l.Perm l0 ∧ OrdL (fun x y => decide (c x y < 0)) l) ∧ y = .tup [] ∧ hp' = [.row u l0.length 2 (rowL l) ty]) := by
 refine SpecH.of_VC Tryz.func194 rfl Tryz.ntmps194 (Nle rfl) fun w A hB => ?_
 refine VC.sr ?_
 refine VO.mb ?_
 refine VO.nil ?_
 refine VC.sr ?_
 refine VO.mb ?_
 refine VO.nil ?_
 refine VC.block ?_
 refine VC.loopK [(0, _), (4, _)] ⟨rfl, rfl, trivial⟩ ({z : Nat // z = 0}) (fun (iZ : {z : Nat // z = 0}) => match iZ with | ⟨z, hz⟩ => [(1, avI 0), (2, avI l0.length), (3, avI k), (10, avB true), (11, avB true)]) (fun (iZ : {z : Nat // z = 0}) => match iZ with | ⟨z, hz⟩ => [.row u l0.length 2 (rowL l0) ty]) (fun (iZ : {z : Nat // z = 0}) => match iZ with | ⟨z, hz⟩ => 0) (fun (iZ : {z : Nat // z = 0}) => match iZ with | ⟨z, hz⟩ => z) ⟨0, rfl⟩ (Le.mk hB [0] ⟨rfl, rfl, rfl, rfl, rfl, rfl, rfl, trivial⟩ rfl rfl (Nat.le_refl _)) ?_
 rintro ⟨z, hz⟩
 show VC _ _ _ _ ⟨[(1, avI 0), (2, avI l0.length), (3, avI k), (10, avB true), (11, avB true)] ++ [(0, _), (4, _)], [.row u l0.length 2 (rowL l0) ty], 0⟩
 refine VC.block ?_
 refine VC.sr ?_
 refine VO.mw ?_
 refine VO.mw ?_
 refine VO.vv (OpV.sub rfl rfl rfl (by unfold fits; omega)) ?_
 refine VO.mb ?_
 refine VO.nil ?_
 refine VC.seq ?_
 refine VC.sr ?_
 refine VO.mw ?_
 refine VO.vv (OpV.leq rfl rfl rfl) ?_
 refine VO.nil ?_
 refine VC.cond rfl (fun aH1b => ?_) (fun aH1b => ?_)
 ·have aH1 := aH1b
  try simp only [qq] at aH1
  refine VC.sr ?_
  refine VO.mw ?_
  refine VO.mw ?_
  refine VO.mw ?_
  refine VO.mw ?_
  refine VO.op rfl (OpE.callH0 rfl hB rfl Tryz.call261 rfl rfl (insSort_need (by omega) hcall hF ht ha hn) (List.Perm.refl _) (fun _ _ => trivial) ?_)
  rintro _ _ ⟨l, hpl, rfl, rfl⟩
  refine VO.nil ?_
  refine VC.ret ?_
  exact Exists.intro _ (And.intro (RetV.none Tryz.results194) (⟨l, hpl, rfl, rfl⟩))
 ·have aH1 := aH1b
  try simp only [qq] at aH1
  exact VC.absurd (by omega)
theorem sortFunc_need {l0 : List NeedS} {u : Value} {ty : TypeId} {F : FuncId} {cs : List AV} {c : NeedS → NeedS → Int} (hl : l0.length ≤ 12) (hcall : ∀ us w, (callFunc F us).run Tryz.prog w = .ok (.enter F us) w) (hF : ∀ x y, Spec Tryz.prog F ([avNd x, avNd y] ++ cs) (fun z => z = avI (c x y))) (ht : ∀ {a b d : NeedS}, decide (c a b < 0) = true → decide (c b d < 0) = true → decide (c a d < 0) = true) (ha : ∀ {a b : NeedS}, decide (c a b < 0) = true → decide (c b a < 0) = false) (hn : ∀ {a b d : NeedS}, decide (c b a < 0) = false → decide (c d b < 0) = false → decide (c d a < 0) = false) :
  SpecH Tryz.prog 115 [.v u, .fn F cs] [.row u l0.length 2 (rowL l0) ty] (fun y hp' => ∃ l, (l.Perm l0 ∧ OrdL (fun x y => decide (c x y < 0)) l) ∧ y = .tup [] ∧ hp' = [.row u l0.length 2 (rowL l) ty]) := by
 refine SpecH.of_VC Tryz.func115 rfl Tryz.ntmps115 (Nle rfl) fun w A hB => ?_
 refine VC.sr ?_
 refine VO.mw ?_
 refine VO.vv (OpV.len_row (i := 0) rfl Tryz.underlying68 rfl rfl) ?_
 refine VO.mb ?_
 refine VO.nil ?_
 refine VC.region ?_
 refine VO.mw ?_
 refine VO.mw ?_
 refine VO.mw ?_
 refine VO.vv (OpV.conv rfl Tryz.underlying3 Tryz.underlying282 rfl (IntWalk.u64_in _ (by omega))) ?_
 refine VO.op rfl (OpE.call rfl hB rfl Tryz.call176 rfl (SpecN.spec (bits_Len_S (x := (l0.length : Int)) (by omega) (by omega))) ?_)
 rintro _ ⟨k, rfl⟩
 refine VO.mw ?_
 refine VO.op rfl (OpE.callH0 rfl hB rfl Tryz.call194 rfl rfl (pdqSort_need hl hcall hF ht ha hn) (List.Perm.refl _) (fun _ _ => trivial) ?_)
 rintro _ _ ⟨l, hpl, rfl, rfl⟩
 refine VO.nil ?_
 exact Exists.intro _ (And.intro (RetV.none Tryz.results115) (⟨l, hpl, rfl, rfl⟩))
end
section
theorem SpecH.fnv {P : Program} {F G : FuncId} {x : AV} {hp : List Ent} {Q : AV → List Ent → Prop} (h : SpecH P F [x, .fn G []] hp Q) : SpecH P F [x, .v (.func (.func G) #[] #[])] hp Q := fun w A us ha h2 h3 h4 => by
 refine h w A us ⟨ha.1, fun j hj => ?_⟩ h2 h3 h4
 match j, hj with
 | 0, hj => exact ha.2 0 (by simp)
 | 1, hj =>
  have h1 := ha.2 1 (by simp)
  have e : us.getD 1 undef = .func (.func G) #[] #[] := h1.eq_v
  show Rep w _ (.fn G []) (us.getD 1 undef)
  rw [e]
  exact .fn G [] #[] rfl fun j hj => by simp at hj
def eqNd (x y : NeedS) : Bool := sEq x.key y.key && (decide (x.count = y.count) && true)
theorem eqNd_self (x : NeedS) : eqNd x x = true := by simp [eqNd, sEq_refl]
theorem slices_Equal_need {xs ys : List NeedS} (hl : xs.length ≤ 1000000000) (hl' : ys.length ≤ 1000000000) :
  SpecN Tryz.prog 36 [avL xs, avL ys] (fun y => y = avB (eqLs eqNd xs ys)) := by
 refine SpecN.of_VCN Tryz.func36 rfl Tryz.ntmps36 (Nle rfl) fun w A hB => ?_
 refine VC.sr ?_
 refine VO.mb ?_
 refine VO.nil ?_
 refine VC.seq ?_
 refine VC.sr ?_
 refine VO.mw ?_
 refine VO.vv (OpV.len_im rfl Tryz.underlying68 rfl) ?_
 refine VO.mw ?_
 refine VO.vv (OpV.len_im rfl Tryz.underlying68 rfl) ?_
 refine VO.vv (OpV.neq rfl rfl rfl) ?_
 refine VO.nil ?_
 refine VC.cond rfl (fun aH1b => ?_) (fun aH1b => ?_)
 ·have aH1 := aH1b
  try simp only [qq] at aH1
  refine VC.sr ?_
  refine VO.mb ?_
  refine VO.nil ?_
  refine VC.ret ?_
  exact Exists.intro _ (And.intro (RetN.one Tryz.results36 (ResN.v rfl)) (by first | rw [eqLs_len (by omega)] | rw [eqLs_at (d := default) (q := q) (by omega) (not_true_false h2b)] | rw [eqLs_all (d := default) (by omega) (fun j hj => hn j (by omega))]))
 ·have aH1 := aH1b
  try simp only [qq] at aH1
  refine VC.skip ?_
  refine VC.seq ?_
  refine VC.sr ?_
  refine VO.mw ?_
  refine VO.vv (OpV.len_im rfl Tryz.underlying68 rfl) ?_
  refine VO.mw ?_
  refine VO.nil ?_
  refine VC.block ?_
  refine VC.loopK [(0, _), (1, _), (12, _)] ⟨rfl, rfl, rfl, trivial⟩ ({q : Nat // q ≤ xs.length ∧ ∀ j, j < q → eqNd (xs.getD j default) (ys.getD j default) = true}) (fun (iZ : {q : Nat // q ≤ xs.length ∧ ∀ j, j < q → eqNd (xs.getD j default) (ys.getD j default) = true}) => match iZ with | ⟨q, hq, hn⟩ => [(13, avI (q : Int))]) (fun (iZ : {q : Nat // q ≤ xs.length ∧ ∀ j, j < q → eqNd (xs.getD j default) (ys.getD j default) = true}) => match iZ with | ⟨q, hq, hn⟩ => []) (fun (iZ : {q : Nat // q ≤ xs.length ∧ ∀ j, j < q → eqNd (xs.getD j default) (ys.getD j default) = true}) => match iZ with | ⟨q, hq, hn⟩ => 0) (fun (iZ : {q : Nat // q ≤ xs.length ∧ ∀ j, j < q → eqNd (xs.getD j default) (ys.getD j default) = true}) => match iZ with | ⟨q, hq, hn⟩ => xs.length - q) ⟨0, Nat.zero_le _, fun j hj => absurd hj (Nat.not_lt_zero j)⟩ (Le.mk hB [] ⟨rfl, rfl, rfl, rfl, trivial⟩ rfl rfl (Nat.le_refl _)) ?_
  rintro ⟨q, hq, hn⟩
  show VC _ _ _ _ ⟨[(13, avI (q : Int))] ++ [(0, _), (1, _), (12, _)], [], 0⟩
  refine VC.sr ?_
  refine VO.vv (OpV.lss rfl rfl rfl) ?_
  refine VO.nil ?_
  refine VC.seq ?_
  refine VC.cond rfl (fun aH2b => ?_) (fun aH2b => ?_)
  ·have aH2 := aH2b
   try simp only [qq] at aH2
   refine VC.skip ?_
   refine VC.seq ?_
   refine VC.block ?_
   refine VC.sr ?_
   refine VO.mw ?_
   refine VO.mb ?_
   refine VO.nil ?_
   refine VC.seq ?_
   refine VC.draw (fun _ => NoB) hB (by kernel_rfl) ?_
   refine VA.tk (i := 0) rfl (OpV.move (.inl rfl) rfl) ?_
   refine VA.tk (i := 1) rfl (OpV.move (.inl rfl) rfl) ?_
   refine VA.tk (i := 2) rfl (OpV.indexAddr_E rfl Tryz.underlying68 Tryz.sizeOf90 rfl rfl rfl (by omega)) ?_
   refine VA.tk (i := 3) rfl (OpV.loadK_at rfl hB OutW.wi0 Tryz.isAgg90 Tryz.sizeOf90 rfl rfl) ?_
   refine VA.tk (i := 4) rfl (OpV.move (.inl rfl) rfl) ?_
   refine VA.tk (i := 5) rfl (OpV.move (.inl rfl) rfl) ?_
   refine VA.tk (i := 6) rfl (OpV.indexAddr_E rfl Tryz.underlying68 Tryz.sizeOf90 rfl rfl rfl (by omega)) ?_
   refine VA.tk (i := 7) rfl (OpV.loadK_at rfl hB OutW.wi0 Tryz.isAgg90 Tryz.sizeOf90 rfl rfl) ?_
   refine VA.tk (i := 8) rfl (OpV.aneq rfl Tryz.underlying90 (by kernel_rfl) (by kernel_rfl) rfl rfl (EqFs.str Tryz.underlying9 Tryz.isAgg9 rfl (by decide) (EqFs.int Tryz.underlying3 Tryz.isAgg3 rfl (by decide) (EqFs.nil _)))) ?_
   refine VA.done (by kernel_rfl) ?_
   refine VC.cond rfl (fun h2b => ?_) (fun h2b => ?_)
   ·have h2 := h2b
    try simp only [qq] at h2
    refine VC.sr ?_
    refine VO.mb ?_
    refine VO.nil ?_
    refine VC.ret ?_
    exact Exists.intro _ (And.intro (RetN.one Tryz.results36 (ResN.v rfl)) (by first | rw [eqLs_len (by omega)] | rw [eqLs_at (d := default) (q := q) (by omega) (not_true_false h2b)] | rw [eqLs_all (d := default) (by omega) (fun j hj => hn j (by omega))]))
   ·have h2 := h2b
    try simp only [qq] at h2
    refine VC.skip ?_
    refine VC.region ?_
    refine VO.vv (OpV.add rfl rfl rfl (by unfold fits; omega)) ?_
    refine VO.mw ?_
    refine VO.nil ?_
    exact Exists.intro (⟨q + 1, by omega, lt_succ_cases hn (not_false_true h2b)⟩) (And.intro (Le.mk hB [] ⟨rfl, rfl, rfl, rfl, trivial⟩ rfl rfl (Nat.le_refl _)) (by first | omega | (show _ < _; omega) | (simp only []; omega)))
  ·have aH2 := aH2b
   try simp only [qq] at aH2
   refine VC.exit ?_
   refine VC.sr ?_
   refine VO.mb ?_
   refine VO.nil ?_
   refine VC.ret ?_
   exact Exists.intro _ (And.intro (RetN.one Tryz.results36 (ResN.v rfl)) (by first | rw [eqLs_len (by omega)] | rw [eqLs_at (d := default) (q := q) (by omega) (not_true_false h2b)] | rw [eqLs_all (d := default) (by omega) (fun j hj => hn j (by omega))]))
end
section
def insL (l : List Int) (k n : Nat) : List Int := l.take k ++ (n : Int) :: l.drop k
theorem insL_len {l : List Int} {k n : Nat} (h : k ≤ l.length) : (insL l k n).length = l.length + 1 := by simp [insL]; omega
theorem insL_lo {l : List Int} {k n q : Nat} (h : k ≤ l.length) (hq : q < k) : (insL l k n).getD q 0 = l.getD q 0 := by
 simp only [insL, List.getD_eq_getElem?_getD]
 rw [List.getElem?_append_left (by simp; omega), List.getElem?_take_of_lt hq]
theorem insL_at {l : List Int} {k n : Nat} (h : k ≤ l.length) : (insL l k n).getD k 0 = (n : Int) := by
 simp only [insL, List.getD_eq_getElem?_getD]
 rw [List.getElem?_append_right (by simp; omega)]
 simp [Nat.min_eq_left h]
theorem insL_hi {l : List Int} {k n q : Nat} (h : k ≤ l.length) (hq : k ≤ q) : (insL l k n).getD (q + 1) 0 = l.getD q 0 := by
 simp only [insL, List.getD_eq_getElem?_getD]
 rw [List.getElem?_append_right (by simp; omega)]
 have e : q + 1 - (l.take k).length = (q - k) + 1 := by simp; omega
 rw [e, List.getElem?_cons_succ, List.getElem?_drop]
 rw [show k + (q - k) = q by omega]
theorem insL_ord {l : List Int} {k n : Nat} (h : Ord n l) (hk : k ≤ l.length) : Ord (n + 1) (insL l k n) := by
 have hm : (n : Int) ∉ l := fun hc => by have := h.lt _ hc; omega
 refine ⟨?_, fun x hx => ?_⟩
 ·have hd : (l.take k ++ l.drop k).Nodup := by rw [List.take_append_drop]; exact h.nd
  have hp : (insL l k n).Perm ((n : Int) :: (l.take k ++ l.drop k)) := List.perm_middle
  rw [hp.nodup_iff, List.nodup_cons]
  exact ⟨by rw [List.take_append_drop]; exact hm, hd⟩
 ·have hp : (insL l k n).Perm ((n : Int) :: (l.take k ++ l.drop k)) := List.perm_middle
  have := hp.subset hx
  rw [List.take_append_drop] at this
  rcases List.mem_cons.1 this with rfl | h2
  ·omega
  ·have := h.lt x h2; omega
section
variable {p : List PaceS} {o : List OrdrS} {l : List Int} {start each : Int} {x : OrdrS} (h : SchOk p o l start each) (hx : hasP p x.product = true) (hxb : (1 ≤ x.count ∧ x.count ≤ 100000) ∧ (0 ≤ x.ready ∧ x.ready ≤ 345686399999) ∧ (0 ≤ x.due ∧ x.due ≤ 345686399999)) (ho : o.length ≤ 200)
include h hx hxb ho
theorem SchOk.ins {k : Nat} (hk : k ≤ l.length) : SchOk p (o ++ [x]) (insL l k o.length) start each := by
 have hat : ∀ j, j < (o ++ [x]).length → (o ++ [x]).getD j default = if j < o.length then o.getD j default else x := fun j hj => by
  simp only [List.getD_eq_getElem?_getD]
  split
  ·rw [List.getElem?_append_left (by assumption)]
  ·rw [List.getElem?_append_right (by omega)]
   simp at hj
   rw [show j - o.length = 0 by omega]; rfl
 refine ⟨h.pok, ⟨by simp; omega, fun j hj => ?_⟩, fun j hj => ?_, by rw [insL_len hk, h.len]; simp, by rw [List.length_append]; exact insL_ord h.ord hk, h.st, h.ea⟩
 ·rw [hat j hj]
  split
  ·exact h.ook.all j (by assumption)
  ·exact hxb
 ·rw [hat j hj]
  split
  ·exact h.has j (by assumption)
  ·exact hx
end
end
section
def lateZ (p : List PaceS) (o : List OrdrS) (l : List Int) (e s : Int) : Int := (resP p o l s e l.length).late
section
variable {p : List PaceS} {o : List OrdrS} {l : List Int} {e : Int}
end
end
section
section
variable {P : Program} {B : Bs} {W : Nat → Prop} {s s' : St'} {o : Oper} {K : St' → Prop} {a : Act} {w w' : World} {Q : Exit → St' → Prop}
theorem OpE.appendZP {x y : Operand} {T Tn e bytes cap k i g n : Nat} {o' : Own'} {z : Value} {vs : List Value} {kn kq : IntKind} {kk : Int} (ho : o.op = .call { callee := .builtin .append, args := #[x, y], argTypes := #[T, Tn] }) (hB : B.Ok) (hd : okd B.nt o.dst = true)
  (hu : P.underlying T = some (.slice e)) (hun : P.underlying Tn = some (.int kn)) (hinfo : (P.info? e).map (fun i => (i.zero, i.size, i.bytes)) = some (some z, 1, bytes)) (hz : z.cells.size = 1) (hby : bytes ≤ 4096)
  (hx : evO s x = some (.v (.slice (some ⟨g, 0, none⟩) n cap))) (hi : s.hp[i]? = some (.box g o')) (hvs : o'.cs.take n = vs.map .v) (hvl : vs.length = n) (hy : evO s y = some (.v (.int kq kk))) (hkk : kk = k) (hk : 0 < k) (hcap : cap < n + k) (hlen : n + k ≤ 10000000000)
  (hK : ∀ u, K ((St'.mk s.sl (s.hp ++ [.row u (n + k) 1 (vs.map .v ++ List.replicate k .any) e]) s.k).put o.dst (.v u))) : OpE P B W s o K := by
 subst hkk
 obtain ⟨ii, hii, hz0, hz1, hz2⟩ := info_parts hinfo
 subst hz2
 intro a w hr next Qx hn
 obtain ⟨c0, h1, h2, h3, h4⟩ := hr.blocks _ (List.mem_of_getElem? hi)
 have hnl : n ≤ o'.cs.length := by
  have := congrArg List.length hvs
  rw [List.length_take, List.length_map] at this
  omega
 have hold : ∀ j, (hj : j < n) → c0[j]? = some (vs[j]'(by omega)) := fun j hj => by
  obtain ⟨v, k1, k2⟩ := h4 j (by omega)
  have e1 : o'.cs[j]'(by omega) = .v (vs[j]'(by omega)) := by
   have := congrArg (fun l => l[j]?) hvs
   simp only [List.getElem?_take_of_lt hj, List.getElem?_map, List.getElem?_eq_getElem (by omega : j < o'.cs.length), List.getElem?_eq_getElem (by omega : j < vs.length), Option.map_some] at this
   exact Option.some.inj this
  rw [e1] at k2
  rw [k1, k2.eq_v]
 have hb47 : (n + k) * ii.bytes ≤ 140737488355328 := by
  have : (n + k) * ii.bytes ≤ 10000000000 * 4096 := Nat.mul_le_mul hlen hby
  omega
 have hb48 : k * ii.bytes ≤ (n + k) * ii.bytes := Nat.mul_le_mul_right _ (by omega)
 have hrun := Lib.run_append_grow_zeros (P := P) w T Tn o.type e ii z kq kn hu hun hii hz0 (some ⟨g, 0, none⟩) n cap vs (by
  have hc := run_loadCells_list (P := P) w.drew ⟨g, 0, none⟩ vs (fun j v hj => by
   have hjl := (List.getElem?_eq_some_iff.1 hj).1
   have := hold j (by omega)
   have hv : vs[j]'hjl = v := (List.getElem?_eq_some_iff.1 hj).2
   have e0 : (⟨g, 0, none⟩ : Addr).add j = ⟨g, j, none⟩ := by unfold Addr.add; split <;> simp_all
   have hh : w.drew.heap[g]? = w.heap[g]? := rfl
   rw [e0]
   simp [World.cell?, hh, h1, this, hv])
  simpa [Builtin.firstCells, hz1, hvl] using hc) k hk (by omega) hcap (by omega) (by omega) (growslice_fits hcap hb47)
 have hge := grownCap_ge w (n + k) cap e
 have hcm := grownCap_le_maxLen w (n + k) cap e (by simp only [maxLen]; omega)
 have hr' : R B ⟨s.sl, s.hp ++ [.row (.slice (some ⟨w.heap.size, 0, none⟩) (n + k) (grownCap w (n + k) cap e)) (n + k) 1 (vs.map .v ++ List.replicate k .any) e], s.k⟩ a _ :=
  hr.newRow hB (((Chg.refl NoB w).drew).alloc (.cells (vs.toArray ++ Builtin.zeroCells z.cells k ++ Builtin.zeroCells z.cells (grownCap w (n + k) cap e - (n + k))) e)) (fun g hg => by simp [Ent.blk, Value.ownBlock] at hg; omega) ⟨by simp [hvl], .inr ⟨_, _, _, rfl, hge, hcm, heap_alloc_new _ _, by
   simp only [Array.size_append, size_zeroCells, hz, List.size_toArray]
   omega, fun j hj => by
   simp only [List.length_append, List.length_map, List.length_replicate] at hj
   have hlt : j < (vs.toArray ++ Builtin.zeroCells z.cells k ++ Builtin.zeroCells z.cells (grownCap w (n + k) cap e - (n + k))).size := by
    simp only [Array.size_append, size_zeroCells, hz, List.size_toArray]
    omega
   by_cases hjn : j < vs.length
   ·refine ⟨vs[j], ?_, by rw [List.getElem_append_left (by simpa using hjn), List.getElem_map]; exact .v _⟩
    rw [Array.getElem?_eq_getElem hlt]
    rw [Array.getElem_append_left (by simp; omega), Array.getElem_append_left (by simpa using hjn)]
    simp
   ·exact ⟨_, Array.getElem?_eq_getElem hlt, by rw [List.getElem_append_right (by simp; omega), List.getElem_replicate]; exact .any _⟩⟩⟩
 unfold Oper.wp
 simp only [execOp, ho, resolve, invoke, builtin, List.map_toArray, List.map_cons, List.map_nil, hr.evv hx, hr.evv hy, Sem.run_bind, Sem.run_pure, Result.andThen_ok, hrun]
 exact hn _ _ _ (hK _) (hr'.put _ hd _ _ (.v _)) (.ofN (((Chg.refl NoB w).drew).alloc _))
end
def insX (p : List Int) (k : Nat) (x : Int) : List Int := p.take k ++ x :: p.drop k
theorem insK_one {A rest : List AV} {F : Nat → AV} {X : AV} {k : Nat} (hA : A.length = k) (hr : 0 < rest.length) (hF : F 0 = X) : (A ++ rest).take (0 + k * 1) ++ tab (1 * 1) F ++ (A ++ rest).drop (0 + k * 1 + 1 * 1) = A ++ X :: rest.drop 1 := by
 have e1 : (A ++ rest).take (0 + k * 1) = A := by rw [show 0 + k * 1 = A.length by omega, List.take_left']; rfl
 have e2 : (A ++ rest).drop (0 + k * 1 + 1 * 1) = rest.drop 1 := by rw [show 0 + k * 1 + 1 * 1 = A.length + 1 by omega, List.drop_append]; simp
 rw [e1, e2]
 simp [tab, hF]
theorem insK_many {A rest : List AV} {F : Nat → AV} {y : AV} {k : Nat} {p : List Int} (hA : A.length = k) (hk : k ≤ p.length) (hr : rest.length ≤ p.length - k) (hF : ∀ j, j < p.length - k → F j = avI (p.getD (k + j) 0)) :
  (A ++ y :: rest).take (0 + (k + 1) * 1) ++ tab ((p.length - k) * 1) F ++ (A ++ y :: rest).drop (0 + (k + 1) * 1 + (p.length - k) * 1) = A ++ y :: intsL (p.drop k) := by
 have e1 : (A ++ y :: rest).take (0 + (k + 1) * 1) = A ++ [y] := by
  rw [show A ++ y :: rest = (A ++ [y]) ++ rest by simp, List.take_left']
  simp; omega
 have e2 : (A ++ y :: rest).drop (0 + (k + 1) * 1 + (p.length - k) * 1) = [] := List.drop_eq_nil_of_le (by simp; omega)
 have e3 : tab ((p.length - k) * 1) F = intsL (p.drop k) := by
  apply List.ext_getElem (by rw [tab_len, intsL_len, Nat.mul_one, List.length_drop])
  intro i h1 h2
  rw [tab_get]
  rw [intsL_len, List.length_drop] at h2
  rw [hF i h2]
  simp [intsL, show k + i < p.length by omega]
 rw [e1, e2, e3, List.append_nil, List.append_assoc]
 rfl
theorem insX_eq (p : List Int) (k : Nat) (x : Int) : intsL (p.take k) ++ avI x :: intsL (p.drop k) = intsL (insX p k x) := by simp [intsL, insX]
def vsK (p : List Int) (k : Nat) : List Value := (p.take k).map fun n => Value.int .i64 n
theorem vsK_eq (p : List Int) (k : Nat) : (vsK p k).map AV.v = intsL (p.take k) := by unfold vsK intsL; rw [List.map_map]; rfl
theorem insK_pad {p : List Int} {k : Nat} (h : k < p.length) : intsL p ++ List.replicate 1 AV.any = intsL (p.take k) ++ avI (p.getD k 0) :: (intsL (p.drop (k + 1)) ++ [AV.any]) := by
 have e : p = p.take k ++ p.getD k 0 :: p.drop (k + 1) := by
  rw [show p.getD k 0 = p[k] by simp [h], ← List.drop_eq_getElem_cons h, List.take_append_drop]
 conv => lhs; rw [e]
 simp [intsL]
set_option maxHeartbeats 4000000 in
theorem slices_InsertI {p : List Int} {x : Int} {k : Nat} {u : Value} (hl : p.length ≤ 1000000000) (hk : k ≤ p.length) :
  SpecH Tryz.prog 124 [.v u, avI (k : Int), avInts [x]] [.row u p.length 1 (intsL p) 3] (fun y hp' => ∃ u', y = .v u' ∧ hp' = [.row u' (p.length + 1) 1 (intsL (insX p k x)) 3]) := by
 have hx1 : [x].length = 1 := rfl
 refine SpecH.of_VC Tryz.func124 rfl Tryz.ntmps124 (Nle rfl) fun w A hB => ?_
 refine VC.sr ?_
 refine VO.mb ?_
 refine VO.nil ?_
 refine VC.sr ?_
 refine VO.mw ?_
 refine VO.mw ?_
 refine VO.vv (OpV.slice_rowA (i := 0) (l := k) rfl Tryz.underlying22 Tryz.sizeOf3 rfl rfl ⟨_, _, rfl, rfl⟩ rfl (by omega) (by omega)) ?_
 refine VO.nil ?_
 refine VC.sr ?_
 refine VO.mw ?_
 refine VO.vv (OpV.len_im rfl Tryz.underlying22 rfl) ?_
 refine VO.mb ?_
 refine VO.nil ?_
 refine VC.seq ?_
 refine VC.sr ?_
 refine VO.mw ?_
 refine VO.vv (OpV.eql rfl rfl rfl) ?_
 refine VO.nil ?_
 refine VC.cond rfl (fun aH1b => ?_) (fun aH1b => ?_)
 ·have aH1 := aH1b
  try simp only [qq] at aH1
  exact VC.absurd (by omega)
 ·have aH1 := aH1b
  try simp only [qq] at aH1
  refine VC.skip ?_
  refine VC.sr ?_
  refine VO.mw ?_
  refine VO.vv (OpV.len_row (i := 0) rfl Tryz.underlying22 rfl rfl) ?_
  refine VO.mb ?_
  refine VO.nil ?_
  refine VC.seq ?_
  refine VC.sr ?_
  refine VO.mw ?_
  refine VO.mw ?_
  refine VO.vv (OpV.eql rfl rfl rfl) ?_
  refine VO.nil ?_
  refine VC.cond rfl (fun h1b => ?_) (fun h1b => ?_)
  ·have h1 := h1b
   try simp only [qq] at h1
   obtain rfl : k = p.length := by omega
   refine VC.sr ?_
   refine VO.mw ?_
   refine VO.mw ?_
   refine VO.op rfl (OpE.appendP (i := 0) rfl hB rfl Tryz.underlying22 (infoOf Tryz.t3 1 (by kernel_rfl) rfl rfl) rfl (by decide) (by decide) rfl rfl (.im rfl) (fun _ _ => rfl) (by omega) ((show intsL p ++ tab (1 * 1) (fun j => avI ([x].getD j 0)) = intsL (insX p p.length x) from by rw [← insX_eq, List.take_length, List.drop_length]; rfl)) (fun _ _ => trivial) ?_)
   intro u25
   refine VO.mb ?_
   refine VO.nil ?_
   refine VC.ret ?_
   exact Exists.intro _ (And.intro (RetV.one Tryz.results124 (ResV.tmp rfl)) (⟨_, rfl, rfl⟩))
  ·have h1 := h1b
   try simp only [qq] at h1
   refine VC.asBox (i := 0) rfl (by omega) (fun g cap hu hcap hmx => ?_)
   subst hu
   refine VC.skip ?_
   refine VC.seq ?_
   refine VC.sr ?_
   refine VO.mw ?_
   refine VO.mw ?_
   refine VO.vv (OpV.add rfl rfl rfl (by unfold fits; omega)) ?_
   refine VO.mw ?_
   refine VO.vv (OpV.cap_v rfl Tryz.underlying22 rfl) ?_
   refine VO.vv (OpV.gtr rfl rfl rfl) ?_
   refine VO.nil ?_
   refine VC.cond rfl (fun h2b => ?_) (fun h2b => ?_)
   ·have h2 := h2b
    try simp only [qq] at h2
    refine VC.sr ?_
    refine VO.mw ?_
    refine VO.mw ?_
    refine VO.vv (OpV.slice_own (h := k) rfl Tryz.underlying22 Tryz.sizeOf3 rfl rfl ⟨_, _, rfl, rfl⟩ (by omega) (by omega) (by omega)) ?_
    refine VO.mw ?_
    refine VO.mw ?_
    refine VO.vv (OpV.add rfl rfl rfl (by unfold fits; omega)) ?_
    refine VO.mw ?_
    refine VO.vv (OpV.sub rfl rfl rfl (by unfold fits; omega)) ?_
    refine VO.op rfl (OpE.appendZP (i := 0) (k := p.length + 1 - k) (vs := vsK p k) rfl hB rfl Tryz.underlying22 Tryz.underlying3 (infoOf Tryz.t3 1 (by kernel_rfl) rfl rfl) rfl (by decide) rfl rfl ((by rw [vsK_eq]; simp [intsL, List.map_take])) ((by simp [vsK]; omega)) rfl (by omega) (by omega) (by omega) (by omega) ?_)
    intro u40
    have hvl : ((vsK p k).map AV.v).length = k := by rw [vsK_eq, intsL_len, List.length_take]; omega
    refine VO.asBox (i := 1) rfl (by omega) (fun g3 cap3 hu3 hcap3 hmx3 => ?_)
    subst hu3
    refine VO.mb ?_
    refine VO.nil ?_
    refine VC.sr ?_
    refine VO.mw ?_
    refine VO.mw ?_
    refine VO.vv (OpV.slice_own (l := k) rfl Tryz.underlying22 Tryz.sizeOf3 rfl ⟨_, _, rfl, rfl⟩ rfl (by omega) (by omega) (by omega)) ?_
    refine VO.mw ?_
    refine VO.op rfl (OpE.copy (i := 1) rfl hB rfl Tryz.underlying22 Tryz.sizeOf3 rfl rfl (SrcP.im rfl) (c := 1) (by omega) (fun _ _ => rfl) (by simp [vsK]; omega) (insK_one (X := avI x) hvl (by simp; omega) rfl) trivial ?_)
    refine VO.nil ?_
    refine VC.seq ?_
    refine VC.draw (fun j b => j = 8 ∧ b = g3) hB (by kernel_rfl) ?_
    refine VA.tk (i := 0) rfl (OpV.move (.inl rfl) rfl) ?_
    refine VA.tk (i := 1) rfl (OpV.move (.inl rfl) rfl) ?_
    refine VA.tk (i := 2) rfl (OpV.move (.inl rfl) rfl) ?_
    refine VA.tk (i := 3) rfl (OpV.add rfl rfl rfl (by unfold fits; omega)) ?_
    refine VA.tk (i := 4) rfl (OpV.slice_own (l := k + 1) rfl Tryz.underlying22 Tryz.sizeOf3 rfl ⟨_, _, rfl, by omega⟩ rfl (by omega) (by omega) (by omega)) ?_
    refine VA.tk (i := 5) rfl (OpV.move (.inl rfl) rfl) ?_
    refine VA.tk (i := 6) rfl (OpV.move (.inl rfl) rfl) ?_
    refine VA.tk (i := 7) rfl (OpV.slice_own (l := k) rfl Tryz.underlying22 Tryz.sizeOf3 rfl ⟨_, _, rfl, rfl⟩ rfl (by omega) (by omega) (by omega)) ?_
    refine VA.all (rs := [8]) (by kernel_rfl) (by decide) ?_
    refine ⟨⟨_, rfl, .inl rfl, ?_⟩, trivial⟩
    refine OpE.copy (i := 1) rfl hB rfl Tryz.underlying22 Tryz.sizeOf3 rfl rfl (SrcP.box (i := 0) rfl rfl (by rw [intsL_len]; omega)) (c := p.length - k) (cs' := intsL (insX p k x)) (by omega) (fun j hj => by dsimp only; rw [List.getD_eq_getElem?_getD, show 0 + k * 1 + j = k + j by omega, intsL_get (by omega)]; rfl) (by first | (simp [vsK]; done) | (simp [vsK]; omega)) ((insK_many hvl hk (by simp; omega) (fun j hj => by dsimp only; rw [List.getD_eq_getElem?_getD, show 0 + k * 1 + j = k + j by omega, intsL_get (by omega)]; rfl)).trans (by rw [vsK_eq]; exact insX_eq p k x)) (by first | exact ⟨rfl, rfl⟩ | exact .inl ⟨rfl, rfl⟩ | exact .inr ⟨rfl, rfl⟩ | exact ⟨rfl, trivial⟩ | exact .inl ⟨rfl, trivial⟩ | exact .inr ⟨rfl, trivial⟩ | exact ⟨by decide, rfl⟩) ?_
    refine VA.done (by kernel_rfl) ?_
    refine VC.sr ?_
    refine VO.mw ?_
    refine VO.mb ?_
    refine VO.nil ?_
    refine VC.le _ ((Le.pickH [1] rfl rfl).trans (Le.boxRow (i := 0) (n := k + (p.length + 1 - k)) (sz := 1) (cap := cap3) rfl (by first | (simp [intsL_len, insX]; done) | (simp [intsL_len, insX]; omega)) (by omega) hmx3)) ?_
    refine VC.ret ?_
    exact Exists.intro _ (And.intro (RetV.one Tryz.results124 (ResV.tmp rfl)) (⟨_, rfl, congrArg (fun n => [Ent.row _ n 1 _ _]) (by omega : k + (p.length + 1 - k) = p.length + 1)⟩))
   ·have h2 := h2b
    try simp only [qq] at h2
    refine VC.le _ (Le.padBox (i := 0) 1 rfl (by rw [intsL_len]; omega)) ?_
    refine VC.skip ?_
    refine VC.sr ?_
    refine VO.mw ?_
    refine VO.mw ?_
    refine VO.mw ?_
    refine VO.vv (OpV.add rfl rfl rfl (by unfold fits; omega)) ?_
    refine VO.vv (OpV.slice_own (h := p.length + 1) rfl Tryz.underlying22 Tryz.sizeOf3 rfl rfl ⟨_, _, rfl, by omega⟩ (by omega) (by omega) (by omega)) ?_
    refine VO.mb ?_
    refine VO.nil ?_
    refine VC.seq ?_
    refine VC.sr ?_
    refine VO.mw ?_
    refine VO.mw ?_
    refine VO.mw ?_
    refine VO.mw ?_
    refine VO.vv (OpV.add rfl rfl rfl (by unfold fits; omega)) ?_
    refine VO.vv (OpV.slice_own (l := k + 1) rfl Tryz.underlying22 Tryz.sizeOf3 rfl ⟨_, _, rfl, by omega⟩ rfl (by omega) (by omega) (by omega)) ?_
    refine VO.op rfl (OpE.overlaps (i := 0) rfl hB rfl (fun us w => run_callFunc_extern Tryz.func199 (by kernel_rfl) (by kernel_rfl) (by kernel_rfl) (e := Extern.SlicesOverlaps.overlaps #[22, 22] #[4]) (by kernel_rfl) us w) Tryz.underlying22 Tryz.sizeOf3 rfl (Nat.succ_pos _) rfl rfl (by show 0 < cap * 1; omega) ?_)
    refine VO.vv (OpV.not rfl rfl) ?_
    refine VO.nil ?_
    refine VC.condT rfl rfl ?_
    refine VC.seq ?_
    refine VC.draw (fun j b => j = 8 ∧ b = g) hB (by kernel_rfl) ?_
    refine VA.tk (i := 0) rfl (OpV.move (.inl rfl) rfl) ?_
    refine VA.tk (i := 1) rfl (OpV.move (.inl rfl) rfl) ?_
    refine VA.tk (i := 2) rfl (OpV.move (.inl rfl) rfl) ?_
    refine VA.tk (i := 3) rfl (OpV.add rfl rfl rfl (by unfold fits; omega)) ?_
    refine VA.tk (i := 4) rfl (OpV.slice_own (l := k + 1) rfl Tryz.underlying22 Tryz.sizeOf3 rfl ⟨_, _, rfl, by omega⟩ rfl (by omega) (by omega) (by omega)) ?_
    refine VA.tk (i := 5) rfl (OpV.move (.inl rfl) rfl) ?_
    refine VA.tk (i := 6) rfl (OpV.move (.inl rfl) rfl) ?_
    refine VA.tk (i := 7) rfl (OpV.slice_own (l := k) rfl Tryz.underlying22 Tryz.sizeOf3 rfl ⟨_, _, rfl, rfl⟩ rfl (by omega) (by omega) (by omega)) ?_
    refine VA.all (rs := [8]) (by kernel_rfl) (by decide) ?_
    refine ⟨⟨_, rfl, .inl rfl, ?_⟩, trivial⟩
    refine OpE.copy (i := 0) rfl hB rfl Tryz.underlying22 Tryz.sizeOf3 rfl rfl (SrcP.box (i := 0) rfl rfl (by simp [intsL_len]; omega)) (c := p.length - k) (cs' := intsL (p.take k) ++ avI (p.getD k 0) :: intsL (p.drop k)) (by omega) (fun j hj => by dsimp only; rw [List.getD_eq_getElem?_getD, show 0 + k * 1 + j = k + j by omega, List.getElem?_append_left (by rw [intsL_len]; omega), intsL_get (by omega)]; rfl) (by first | (simp [intsL_len]; done) | (simp [intsL_len]; omega)) (by rw [insK_pad (by omega : k < p.length)]; exact insK_many (by rw [intsL_len, List.length_take]; omega) hk (by simp [intsL_len]; omega) (fun j hj => by dsimp only; rw [← insK_pad (by omega : k < p.length), List.getD_eq_getElem?_getD, show 0 + k * 1 + j = k + j by omega, List.getElem?_append_left (by rw [intsL_len]; omega), intsL_get (by omega)]; rfl)) (by first | exact ⟨rfl, rfl⟩ | exact .inl ⟨rfl, rfl⟩ | exact .inr ⟨rfl, rfl⟩ | exact ⟨rfl, trivial⟩ | exact .inl ⟨rfl, trivial⟩ | exact .inr ⟨rfl, trivial⟩ | exact ⟨by decide, rfl⟩) ?_
    refine VA.done (by kernel_rfl) ?_
    refine VC.sr ?_
    refine VO.mw ?_
    refine VO.mw ?_
    refine VO.vv (OpV.slice_own (l := k) rfl Tryz.underlying22 Tryz.sizeOf3 rfl ⟨_, _, rfl, rfl⟩ rfl (by omega) (by omega) (by omega)) ?_
    refine VO.mw ?_
    refine VO.op rfl (OpE.copy (i := 0) rfl hB rfl Tryz.underlying22 Tryz.sizeOf3 rfl rfl (SrcP.im rfl) (c := 1) (cs' := intsL (insX p k x)) (by omega) (fun _ _ => rfl) (by first | (simp [intsL_len]; done) | (simp [intsL_len]; omega)) ((insK_one (X := avI x) (by rw [intsL_len, List.length_take]; omega) (by simp) rfl).trans (insX_eq p k x)) trivial ?_)
    refine VO.nil ?_
    refine VC.sr ?_
    refine VO.mw ?_
    refine VO.mb ?_
    refine VO.nil ?_
    refine VC.le _ (Le.boxRow (i := 0) (n := p.length + 1) (sz := 1) (cap := cap) rfl (by first | (simp [intsL_len, insX]; done) | (simp [intsL_len, insX]; omega)) (by omega) hmx) ?_
    refine VC.ret ?_
    exact Exists.intro _ (And.intro (RetV.one Tryz.results124 (ResV.tmp rfl)) (⟨_, rfl, rfl⟩))
end
section
theorem flat_or (xs : List OrdrS) : FlatA (rowL xs) := flat_rowL (fun x j hj => by
 match j, hj with
 | 0, _ => exact ⟨_, rfl⟩
 | 1, _ => exact ⟨_, rfl⟩
 | 2, _ => exact ⟨_, rfl⟩
 | 3, _ => exact ⟨_, rfl⟩
 | 4, _ => exact ⟨_, rfl⟩) xs
theorem or_one (xs : List OrdrS) (x : Nat) (h : x < xs.length * 5) : ((fun q => Sxc.cell (xs.getD q default)) (x / Sxc.k OrdrS) (x % Sxc.k OrdrS)).one = true := by
 have : x % Sxc.k OrdrS < 5 := Nat.mod_lt _ (by decide)
 match x % Sxc.k OrdrS, this with
 | 0, _ => rfl
 | 1, _ => rfl
 | 2, _ => rfl
 | 3, _ => rfl
 | 4, _ => rfl
theorem slices_CloneO_R {xs : List OrdrS} (hl : xs.length ≤ 1000000000) :
  SpecR Tryz.prog 123 [avL xs] xs.length 5 (rowL xs) 110 := by
 refine SpecR.of_VC Tryz.func123 rfl Tryz.ntmps123 (Nle rfl) (flat_or xs) fun w A hB => ?_
 refine VC.sr ?_
 refine VO.mb ?_
 refine VO.nil ?_
 refine VC.seq ?_
 refine VC.sr ?_
 refine VO.mw ?_
 refine VO.op rfl (OpE.eqNil rfl rfl Tryz.underlying93 rfl ?_)
 intro b4 hb4
 refine VO.nil ?_
 refine VC.cond rfl (fun h0b => ?_) (fun h0b => ?_)
 ·have h0 := h0b
  try simp only [qq] at h0
  refine VC.sr ?_
  refine VO.mb ?_
  refine VO.nil ?_
  obtain rfl : xs = [] := List.eq_nil_of_length_eq_zero (hb4 h0)
  refine VC.le _ (Le.nilRow 5 110) ?_
  refine VC.ret ?_
  exact Exists.intro _ (And.intro (RetV.one Tryz.results123 (ResV.tmp rfl)) (⟨_, rfl, List.Mem.head _⟩))
 ·have h0 := h0b
  try simp only [qq] at h0
  refine VC.skip ?_
  refine VC.sr ?_
  refine VO.op rfl (OpE.buildSlice0 rfl hB rfl Tryz.underlying93 Tryz.sizeOf110 ?_)
  intro g5
  refine VO.mw ?_
  refine VO.op rfl (OpE.appendP (i := 0) rfl hB rfl Tryz.underlying93 (infoOf Tryz.t110 5 (by kernel_rfl) rfl rfl) rfl (by decide) (by decide) rfl rfl (.im rfl) (or_one xs) (by omega) (tab_L xs) (fun _ _ => trivial) ?_)
  intro u7
  refine VO.mb ?_
  refine VO.nil ?_
  rw [Nat.zero_add]
  refine VC.ret ?_
  exact Exists.intro _ (And.intro (RetV.one Tryz.results123 (ResV.tmp rfl)) (⟨_, rfl, List.Mem.head _⟩))
theorem slices_IndexFunc_or {xs : List OrdrS} {F : FuncId} {cs : List AV} {p : OrdrS → Bool} (hl : xs.length ≤ 1000000000) (hcall : ∀ us w, (callFunc F us).run Tryz.prog w = .ok (.enter F us) w) (hF : ∀ x, Spec Tryz.prog F ([avT x] ++ cs) (fun y => y = avB (p x))) :
  SpecN Tryz.prog 196 [avL xs, .fn F cs] (fun y => y = avI (fidx p xs)) := by
 refine SpecN.of_VCN Tryz.func196 rfl Tryz.ntmps196 (Nle rfl) fun w A hB => ?_
 refine VC.sr ?_
 refine VO.mb ?_
 refine VO.nil ?_
 refine VC.seq ?_
 refine VC.sr ?_
 refine VO.mw ?_
 refine VO.vv (OpV.len_im rfl Tryz.underlying93 rfl) ?_
 refine VO.mw ?_
 refine VO.nil ?_
 refine VC.block ?_
 refine VC.loopK [(0, _), (1, _), (7, _)] ⟨rfl, rfl, rfl, trivial⟩ ({q : Nat // q ≤ xs.length ∧ ∀ j, j < q → p (xs.getD j default) = false}) (fun (iZ : {q : Nat // q ≤ xs.length ∧ ∀ j, j < q → p (xs.getD j default) = false}) => match iZ with | ⟨q, hq, hn⟩ => [(8, avI (q : Int))]) (fun (iZ : {q : Nat // q ≤ xs.length ∧ ∀ j, j < q → p (xs.getD j default) = false}) => match iZ with | ⟨q, hq, hn⟩ => []) (fun (iZ : {q : Nat // q ≤ xs.length ∧ ∀ j, j < q → p (xs.getD j default) = false}) => match iZ with | ⟨q, hq, hn⟩ => 0) (fun (iZ : {q : Nat // q ≤ xs.length ∧ ∀ j, j < q → p (xs.getD j default) = false}) => match iZ with | ⟨q, hq, hn⟩ => xs.length - q) ⟨0, Nat.zero_le _, fun j hj => absurd hj (Nat.not_lt_zero j)⟩ (Le.mk hB [] ⟨rfl, rfl, rfl, rfl, trivial⟩ rfl rfl (Nat.le_refl _)) ?_
 rintro ⟨q, hq, hn⟩
 show VC _ _ _ _ ⟨[(8, avI (q : Int))] ++ [(0, _), (1, _), (7, _)], [], 0⟩
 refine VC.sr ?_
 refine VO.vv (OpV.lss rfl rfl rfl) ?_
 refine VO.nil ?_
 refine VC.seq ?_
 refine VC.cond rfl (fun aH1b => ?_) (fun aH1b => ?_)
 ·have aH1 := aH1b
  try simp only [qq] at aH1
  refine VC.skip ?_
  refine VC.seq ?_
  refine VC.block ?_
  refine VC.sr ?_
  refine VO.mw ?_
  refine VO.mb ?_
  refine VO.nil ?_
  refine VC.sr ?_
  refine VO.mw ?_
  refine VO.mw ?_
  refine VO.mw ?_
  refine VO.vv (OpV.indexAddr_E rfl Tryz.underlying93 Tryz.sizeOf110 rfl rfl rfl (by omega)) ?_
  refine VO.vv (OpV.loadK_at rfl hB OutW.no Tryz.isAgg110 Tryz.sizeOf110 rfl rfl) ?_
  refine VO.op rfl (OpE.callF rfl hB rfl hcall rfl rfl (hF _) ?_)
  rintro _ rfl
  refine VO.nil ?_
  refine VC.cond rfl (fun aH2b => ?_) (fun aH2b => ?_)
  ·have aH2 := aH2b
   try simp only [qq] at aH2
   refine VC.sr ?_
   refine VO.mw ?_
   refine VO.mb ?_
   refine VO.nil ?_
   refine VC.ret ?_
   exact Exists.intro _ (And.intro (RetN.one Tryz.results196 (ResN.v rfl)) (by first | (rw [fidx_found (d := default) (q := q) (by omega) hn (by assumption)]) | (rw [fidx_none (d := default) (fun j hj => hn j (by omega))])))
  ·have aH2 := aH2b
   try simp only [qq] at aH2
   refine VC.skip ?_
   refine VC.region ?_
   refine VO.vv (OpV.add rfl rfl rfl (by unfold fits; omega)) ?_
   refine VO.mw ?_
   refine VO.nil ?_
   exact Exists.intro (⟨q + 1, by omega, lt_succ_cases hn ((by assumption))⟩) (And.intro (Le.mk hB [] ⟨rfl, rfl, rfl, rfl, trivial⟩ rfl rfl (Nat.le_refl _)) (by first | omega | (show _ < _; omega) | (simp only []; omega)))
 ·have aH1 := aH1b
  try simp only [qq] at aH1
  refine VC.exit ?_
  refine VC.sr ?_
  refine VO.mb ?_
  refine VO.nil ?_
  refine VC.ret ?_
  exact Exists.intro _ (And.intro (RetN.one Tryz.results196 (ResN.v rfl)) (by first | (rw [fidx_found (d := default) (q := q) (by omega) hn (by assumption)]) | (rw [fidx_none (d := default) (fun j hj => hn j (by omega))])))
theorem slices_ContainsFunc_or {xs : List OrdrS} {F : FuncId} {cs : List AV} {p : OrdrS → Bool} (hl : xs.length ≤ 1000000000) (hcall : ∀ us w, (callFunc F us).run Tryz.prog w = .ok (.enter F us) w) (hF : ∀ x, Spec Tryz.prog F ([avT x] ++ cs) (fun y => y = avB (p x))) :
  SpecN Tryz.prog 120 [avL xs, .fn F cs] (fun y => y = avB (xs.any p)) := by
 refine SpecN.of_VCN Tryz.func120 rfl Tryz.ntmps120 (Nle rfl) fun w A hB => ?_
 refine VC.sr ?_
 refine VO.mb ?_
 refine VO.nil ?_
 refine VC.sr ?_
 refine VO.mw ?_
 refine VO.mw ?_
 refine VO.op rfl (OpE.call rfl hB rfl Tryz.call196 rfl (SpecN.spec (slices_IndexFunc_or hl hcall hF)) ?_)
 rintro _ rfl
 refine VO.vv (OpV.geq rfl rfl rfl) ?_
 refine VO.mb ?_
 refine VO.nil ?_
 refine VC.ret ?_
 exact Exists.intro _ (And.intro (RetN.one Tryz.results120 (ResN.v rfl)) (by rw [← fidx_any]))
theorem plan_Promise1 {x y0 : OrdrS}  :
  SpecN Tryz.prog 121 [avT y0, .at_ 5 (Sxc.cell x)] (fun y => y = avB (sEq y0.key x.key)) := by
 refine SpecN.of_VCN Tryz.func121 rfl Tryz.ntmps121 (Nle rfl) fun w A hB => ?_
 refine VC.sr ?_
 refine VO.op rfl (OpE.box rfl hB rfl rfl rfl ?_)
 intro g2
 refine VO.mb ?_
 refine VO.nil ?_
 refine VC.sr ?_
 refine VO.vv (OpV.fieldAddrO 0 rfl Tryz.underlying110 rfl rfl Tryz.sizeOf9 rfl) ?_
 refine VO.vv (OpV.load_own (i := 0) rfl hB Tryz.isAgg9 rfl rfl rfl (fun h => h)) ?_
 refine VO.vv (OpV.fieldAddr_atO 0 rfl Tryz.underlying110 rfl rfl Tryz.sizeOf9 rfl rfl) ?_
 refine VO.vv (OpV.load_at rfl hB OutW.no Tryz.isAgg9 rfl rfl) ?_
 refine VO.vv (OpV.seql rfl rfl rfl) ?_
 refine VO.mb ?_
 refine VO.nil ?_
 refine VC.ret ?_
 exact Exists.intro _ (And.intro (RetN.one Tryz.results121 (ResN.v rfl)) (rfl))
def stpE (n : Nat) (a : Int) (i : Int) (w : WinS) : Int := if i = (n : Int) then w.to else a
abbrev bxE (o : List OrdrS) (a : Int) (Tq Ti : TypeId) (g7 g25 : Nat) : List Ent := [.box g7 ⟨[avL o], Tq, 1⟩, .box g25 ⟨[avI a], Ti, 1⟩]
theorem plan_Promise2 {o : List OrdrS} {i a : Int} {x : WinS} {g7 g25 : Nat} {Tq Ti : TypeId} (hl : o.length ≤ 1000000) :
  SpecH Tryz.prog 125 [avI i, .agg [avI x.fr, avI x.to], pt g7, pt g25] (bxE o a Tq Ti g7 g25) (fun y hp' => hp' = bxE o (stpE o.length a i x) Tq Ti g7 g25) := by
 refine SpecH.of_VC Tryz.func125 rfl Tryz.ntmps125 (Nle rfl) fun w A hB => ?_
 refine VC.sr ?_
 refine VO.op rfl (OpE.box rfl hB rfl rfl rfl ?_)
 intro g5
 refine VO.nil ?_
 refine VC.sr ?_
 refine VO.mw ?_
 refine VO.vv (OpV.load_own (i := 0) rfl hB Tryz.isAgg93 rfl rfl rfl (fun h => h)) ?_
 refine VO.vv (OpV.len_im rfl Tryz.underlying93 rfl) ?_
 refine VO.vv (OpV.eql rfl rfl rfl) ?_
 refine VO.nil ?_
 refine VC.cond rfl (fun h0b => ?_) (fun h0b => ?_)
 ·have h0 := h0b
  try simp only [qq] at h0
  refine VC.region ?_
  refine VO.vv (OpV.fieldAddrO 1 rfl Tryz.underlying104 rfl rfl Tryz.sizeOf3 rfl) ?_
  refine VO.vv (OpV.load_own (i := 2) rfl hB Tryz.isAgg3 rfl rfl rfl (fun h => h)) ?_
  refine VO.le _ (Le.pickH [0, 1] rfl rfl) ?_
  refine VO.op rfl (OpE.store (i := 1) rfl hB rfl Tryz.sizeOf3 rfl rfl rfl rfl rfl rfl (Nle rfl) trivial ?_)
  refine VO.nil ?_
  exact Exists.intro _ (And.intro (RetV.none Tryz.results125) (by unfold stpE; first | (rw [if_pos (by omega)]; rfl) | (rw [if_neg (by omega)]; rfl)))
 ·have h0 := h0b
  try simp only [qq] at h0
  refine VC.le _ (Le.pickH [0, 1] rfl rfl) ?_
  refine VC.skip ?_
  exact Exists.intro _ (And.intro (RetV.none Tryz.results125) (by unfold stpE; first | (rw [if_pos (by omega)]; rfl) | (rw [if_neg (by omega)]; rfl)))
theorem prom_does {o : List OrdrS} {g7 g25 n : Nat} {Tq Ti : TypeId} (hl : o.length ≤ 1000000) : DoesW n (fun (a : Int) h => h = bxE o a Tq Ti g7 g25) (stpE o.length) Tryz.prog 125 #[ptv g7, ptv g25] := by
 rintro i w a h h0 h1 rfl
 exact plan_Promise2 (x := w) (i := i) (a := a) hl
section
variable (p : List PaceS) (o : List OrdrS) (l : List Int) (s e : Int) (x : OrdrS)
def prL (k : Nat) : Int := (resP p (o ++ [x]) (insL l k o.length) s e (insL l k o.length).length).late
def prE (k : Nat) : Int := endP p (o ++ [x]) (insL l k o.length) s e k
def prS : Nat → Int × Int
 | 0 => (-1, 0)
 | q + 1 => if (prS q).1 < 0 ∨ prL p o l s e x q < (prS q).1 ∨ (prL p o l s e x q = (prS q).1 ∧ prE p o l s e x q < (prS q).2) then (prL p o l s e x q, prE p o l s e x q) else prS q
def prmE : Int := if scheF p o l s e ≠ 0 then scheF p o l s e else if ordrF [x] ≠ 0 then ordrF [x] else if o.any (fun y => sEq y.key x.key) = true then 6 else if hasP p x.product = true then 0 else 8
def prmA : Int := if prmE p o l s e x = 0 then (prS p o l s e x (l.length + 1)).2 else 0
def prmG : Int := if prmE p o l s e x = 0 then (prS p o l s e x (l.length + 1)).1 - lateZ p o l e s else 0
end
section
variable {p : List PaceS} {o : List OrdrS} {l : List Int} {s e : Int} {x : OrdrS}
theorem prS_t {q : Nat} (h : (prS p o l s e x q).1 < 0 ∨ prL p o l s e x q < (prS p o l s e x q).1 ∨ (prL p o l s e x q = (prS p o l s e x q).1 ∧ prE p o l s e x q < (prS p o l s e x q).2)) : prS p o l s e x (q + 1) = (prL p o l s e x q, prE p o l s e x q) := by rw [prS, if_pos h]
theorem prS_f {q : Nat} (h : ¬ ((prS p o l s e x q).1 < 0 ∨ prL p o l s e x q < (prS p o l s e x q).1 ∨ (prL p o l s e x q = (prS p o l s e x q).1 ∧ prE p o l s e x q < (prS p o l s e x q).2))) : prS p o l s e x (q + 1) = prS p o l s e x q := by rw [prS, if_neg h]
theorem prS_is {q : Nat} (hL : ∀ k, k < q → 0 ≤ prL p o l s e x k) (h0 : 0 < q) : ∃ k, k < q ∧ prS p o l s e x q = (prL p o l s e x k, prE p o l s e x k) := by
 induction q with
 | zero => omega
 | succ q ih =>
  by_cases h : (prS p o l s e x q).1 < 0 ∨ prL p o l s e x q < (prS p o l s e x q).1 ∨ (prL p o l s e x q = (prS p o l s e x q).1 ∧ prE p o l s e x q < (prS p o l s e x q).2)
  ·exact ⟨q, Nat.lt_succ_self _, prS_t h⟩
  ·rw [prS_f h]
   cases q with
   | zero => exact absurd (.inl (by show (-1 : Int) < 0; decide)) h
   | succ q =>
    obtain ⟨k, hk, hke⟩ := ih (fun k hk => hL k (by omega)) (Nat.succ_pos _)
    exact ⟨k, by omega, hke⟩
theorem prmE_1 (h : scheF p o l s e ≠ 0) : prmE p o l s e x = scheF p o l s e := by rw [prmE, if_pos h]
theorem prmE_2 (h : scheF p o l s e = 0) (h2 : ordrF [x] ≠ 0) : prmE p o l s e x = ordrF [x] := by rw [prmE, if_neg (by omega), if_pos h2]
theorem prmE_6 (h : scheF p o l s e = 0) (h2 : ordrF [x] = 0) (h3 : o.any (fun y => sEq y.key x.key) = true) : prmE p o l s e x = 6 := by rw [prmE, if_neg (by omega), if_neg (by omega), if_pos h3]
theorem prmE_8 (h : scheF p o l s e = 0) (h2 : ordrF [x] = 0) (h3 : o.any (fun y => sEq y.key x.key) = false) (h4 : hasP p x.product = false) : prmE p o l s e x = 8 := by rw [prmE, if_neg (by omega), if_neg (by omega), if_neg (by rw [h3]; decide), if_neg (by rw [h4]; decide)]
theorem prmE_0 (h : scheF p o l s e = 0) (h2 : ordrF [x] = 0) (h3 : o.any (fun y => sEq y.key x.key) = false) (h4 : hasP p x.product = true) : prmE p o l s e x = 0 := by rw [prmE, if_neg (by omega), if_neg (by omega), if_neg (by rw [h3]; decide), if_pos h4]
theorem prm_no (h : prmE p o l s e x ≠ 0) : prmA p o l s e x = 0 ∧ prmG p o l s e x = 0 := by rw [prmA, if_neg h, prmG, if_neg h]; exact ⟨rfl, rfl⟩
theorem prm_ok (h : prmE p o l s e x = 0) : prmA p o l s e x = (prS p o l s e x (l.length + 1)).2 ∧ prmG p o l s e x = (prS p o l s e x (l.length + 1)).1 - lateZ p o l e s := by rw [prmA, if_pos h, prmG, if_pos h]; exact ⟨rfl, rfl⟩
theorem one_ok (h : ordrF [x] = 0) : (1 ≤ x.count ∧ x.count ≤ 100000) ∧ (0 ≤ x.ready ∧ x.ready ≤ 345686399999) ∧ (0 ≤ x.due ∧ x.due ≤ 345686399999) := (ordrE_zero ((ordrsOk h).all 0 (Nat.succ_pos _))).2.2
theorem runA_end {k : Nat} (h : SchOk p (o ++ [x]) (insL l k o.length) s e) (hk : k ≤ l.length) (hl : Ord o.length l) : ∀ q, q ≤ l.length + 1 → runA (stpE o.length) p (o ++ [x]) (insL l k o.length) s e 0 q = if k < q then prE p o l s e x k else 0
 | 0, _ => by rw [if_neg (by omega)]; rfl
 | q + 1, hq => by
  rw [runA, runA_end h hk hl q (by omega)]
  unfold stpE
  by_cases hkq : q = k
  ·subst hkq
   rw [insL_at hk, if_pos rfl, if_pos (Nat.lt_succ_self _)]
   rfl
  ·have hne : (insL l k o.length).getD q 0 ≠ (o.length : Int) := by
    by_cases h2 : q < k
    ·rw [insL_lo hk h2]
     have := hl.lt (l.getD q 0) (by rw [List.getD_eq_getElem?_getD, List.getElem?_eq_getElem (by omega)]; exact List.getElem_mem _)
     omega
    ·obtain ⟨m, rfl⟩ : ∃ m, q = m + 1 := ⟨q - 1, by omega⟩
     rw [insL_hi hk (by omega)]
     have := hl.lt (l.getD m 0) (by rw [List.getD_eq_getElem?_getD, List.getElem?_eq_getElem (by omega)]; exact List.getElem_mem _)
     omega
   rw [if_neg hne]
   by_cases h3 : k < q
   ·rw [if_pos h3, if_pos (by omega)]
   ·rw [if_neg h3, if_neg (by omega)]
end
end
section
structure SmN (l : List NeedS) : Prop where
 len : l.length ≤ 1000000
 key : ∀ i, (l.getD i default).key.size ≤ 1000000
def stkE (p : List PaceS) (o : List OrdrS) (st : List NeedS) : Int := if bothF p o ≠ 0 then bothF p o else needsF st 0 1000000000
theorem stkE_1 {p : List PaceS} {o : List OrdrS} {st : List NeedS} (h : bothF p o ≠ 0) : stkE p o st = bothF p o := by rw [stkE, if_pos h]
theorem stkE_2 {p : List PaceS} {o : List OrdrS} {st : List NeedS} (h : bothF p o = 0) : stkE p o st = needsF st 0 1000000000 := by rw [stkE, if_neg (by omega)]
theorem stk_ok {p : List PaceS} {o : List OrdrS} {st : List NeedS} (h : stkE p o st = 0) : bothF p o = 0 ∧ needsF st 0 1000000000 = 0 := by
 unfold stkE at h
 split at h
 ·contradiction
 ·rename_i h1; exact ⟨by simpa using h1, h⟩
theorem both_ok {p : List PaceS} {o : List OrdrS} (h : bothF p o = 0) : paceF p = 0 ∧ ordrF o = 0 := by
 unfold bothF at h
 split at h
 ·contradiction
 ·rename_i h1
  split at h
  ·contradiction
  ·rename_i h2; exact ⟨by simpa using h1, by simpa using h2⟩
theorem pace_needs {p : List PaceS} (h : paceF p = 0) (k : ByteArray) : needsF (paceO p k).needs 1 1000 = 0 := by
 unfold paceO
 cases hf : p.find? (fun x => sEq x.product k) with
 | none => rfl
 | some x =>
  obtain ⟨i, hi, rfl⟩ := List.getElem_of_mem (List.mem_of_find?_eq_some hf)
  have := (paceE_zero ((pacesOk h).all i hi)).2.2.2
  rw [List.getD_eq_getElem?_getD, List.getElem?_eq_getElem hi] at this
  exact this
theorem ordr_count {o : List OrdrS} (h : ordrF o = 0) {i : Nat} (hi : i < o.length) : 1 ≤ (o.getD i default).count ∧ (o.getD i default).count ≤ 100000 := by
 have := (ordrE_zero ((ordrsOk h).all i hi)).2.2
 omega
theorem kit_bd {p : List PaceS} {x : OrdrS} (h : paceF p = 0) (hx : 1 ≤ x.count ∧ x.count ≤ 100000) : ∀ y ∈ kitL p x, 0 ≤ y.count ∧ y.count ≤ 100000000 := fun y hy => by
 obtain ⟨n, hn, rfl⟩ := List.mem_map.1 hy
 have h1 := needs_bd (pace_needs h x.product) n hn
 have h2 : n.count * x.count ≤ 1000 * x.count := Int.mul_le_mul_of_nonneg_right (by omega) (by omega)
 exact ⟨Int.mul_nonneg (by omega) (by omega), by show n.count * x.count ≤ _; omega⟩
theorem kit_len {p : List PaceS} {x : OrdrS} (h : paceF p = 0) : (kitL p x).length ≤ 1000 := by
 unfold kitL; rw [kitN_len]; exact needsF_lenP (pace_needs h x.product)
theorem amt_bd {l : List NeedS} (hl : l.length ≤ 1000000) (hb : ∀ y ∈ l, 0 ≤ y.count ∧ y.count ≤ 1000000000) (q : Nat) (k : ByteArray) : 0 ≤ mgetD (amtP (l.take q)) k 0 ∧ mgetD (amtP (l.take q)) k 0 ≤ 1000000000000000 := by
 rw [amtP_get]
 have h1 := sumK_bd (c := 1000000000) (by decide) (l := l.take q) (fun y hy => hb y (List.mem_of_mem_take hy)) k
 have h2 : (l.take q).length ≤ 1000000 := by rw [List.length_take]; omega
 omega
theorem need_bd {l : List NeedS} {c : Int} (h0 : 0 ≤ c) (hb : ∀ y ∈ l, 0 ≤ y.count ∧ y.count ≤ c) (q : Nat) : 0 ≤ (l.getD q default).count ∧ (l.getD q default).count ≤ c := by
 rw [List.getD_eq_getElem?_getD]
 cases h : l[q]? with
 | none => exact ⟨Int.le_refl _, h0⟩
 | some x => exact hb x (List.mem_of_getElem? h)
theorem mul_fit {l : List NeedS} {c : Int} (hn : needsF l 1 1000 = 0) (hc : 1 ≤ c ∧ c ≤ 100000) (q : Nat) : 0 ≤ (l.getD q default).count * c ∧ (l.getD q default).count * c ≤ 100000000 := by
 have h1 := need_bd (c := 1000) (by decide) (fun y hy => by have := needs_bd hn y hy; omega) q
 have h2 : (l.getD q default).count * c ≤ 1000 * c := Int.mul_le_mul_of_nonneg_right h1.2 (by omega)
 exact ⟨Int.mul_nonneg h1.1 (by omega), by omega⟩
theorem nd_oneK (xs : List NeedS) (x : Nat) (h : x < xs.length * 2) : ((fun q => Sxc.cell (xs.getD q default)) (x / Sxc.k NeedS) (x % Sxc.k NeedS)).one = true := by
 have : x % Sxc.k NeedS < 2 := Nat.mod_lt _ (by decide)
 match x % Sxc.k NeedS, this with
 | 0, _ => rfl
 | 1, _ => rfl
theorem app_kit (A B : List NeedS) : rowL A ++ tab (B.length * 2) (fun x => (fun q => Sxc.cell (B.getD q default)) (x / Sxc.k NeedS) (x % Sxc.k NeedS)) = rowL (A ++ B) := (congrArg (fun z => rowL A ++ z) (tab_L B)).trans (by simp [rowL])
set_option maxHeartbeats 4000000 in
theorem plan_kitOfX {p : List PaceS} {x : OrdrS} {pc : PaceS} (hl : p.length ≤ 1000000) (hr : RiseK PaceS.product p) (hpc : paceO p x.product = pc) (hn : needsF pc.needs 1 1000 = 0) (hc : 1 ≤ x.count ∧ x.count ≤ 100000) :
  SpecN Tryz.prog 113 [avL p, avOr x] (fun y => y = avL (kitN pc.needs x.count)) := by
 have hnl := needsF_lenP hn
 refine SpecN.of_VCN Tryz.func113 rfl Tryz.ntmps113 (Nle rfl) fun w A hB => ?_
 refine VC.sr ?_
 refine VO.op rfl (OpE.box rfl hB rfl rfl rfl ?_)
 intro g3
 refine VO.mb ?_
 refine VO.nil ?_
 refine VC.sr ?_
 refine VO.mw ?_
 refine VO.vv (OpV.fieldAddrO 1 rfl Tryz.underlying110 rfl rfl Tryz.sizeOf9 rfl) ?_
 refine VO.vv (OpV.load_own (i := 0) rfl hB Tryz.isAgg9 rfl rfl rfl (fun h => h)) ?_
 refine VO.op rfl (OpE.call rfl hB rfl Tryz.call122 rfl (plan_paceOf hl hr) ?_)
 rintro _ rfl
 refine VO.le _ (Le.recast (t := 14) (y := .tup [avPc pc, avB (hasP p x.product)]) rfl (fun w Z u h => by rw [← hpc]; exact h)) ?_
 refine VO.mw ?_
 refine VO.vv (OpV.extract rfl rfl rfl) ?_
 refine VO.vv (OpV.extract rfl rfl rfl) ?_
 refine VO.op rfl (OpE.alloc rfl hB rfl Tryz.zeroValue115 rfl ?_)
 intro g5
 refine VO.op rfl (OpE.store (i := 1) rfl hB rfl Tryz.sizeOf115 rfl rfl rfl rfl rfl rfl (Nle rfl) trivial ?_)
 refine VO.mb ?_
 refine VO.nil ?_
 refine VC.sr ?_
 refine VO.mb ?_
 refine VO.nil ?_
 refine VC.seq ?_
 refine VC.sr ?_
 refine VO.vv (OpV.fieldAddrO 2 rfl Tryz.underlying115 rfl rfl Tryz.sizeOf68 rfl) ?_
 refine VO.vv (OpV.load_own (i := 1) rfl hB Tryz.isAgg68 rfl rfl rfl (fun h => h)) ?_
 refine VO.vv (OpV.len_im rfl Tryz.underlying68 rfl) ?_
 refine VO.mw ?_
 refine VO.nil ?_
 refine VC.block ?_
 refine VC.le _ (Le.nilRow 2 90) ?_
 refine VC.loopK [(3, _), (18, _), (19, _)] ⟨rfl, rfl, rfl, trivial⟩ ({zz : Value × Nat // zz.2 ≤ pc.needs.length}) (fun (iZ : {zz : Value × Nat // zz.2 ≤ pc.needs.length}) => match iZ with | ⟨⟨u, q⟩, hq⟩ => [(7, .v u), (20, avI (q : Int))]) (fun (iZ : {zz : Value × Nat // zz.2 ≤ pc.needs.length}) => match iZ with | ⟨⟨u, q⟩, hq⟩ => [boxOr g3 x 110, .box g5 ⟨[avS pc.product, avI pc.cycle, avL pc.needs], 115, 3⟩, .row u (kitN (pc.needs.take q) x.count).length 2 (rowL (kitN (pc.needs.take q) x.count)) 90]) (fun (iZ : {zz : Value × Nat // zz.2 ≤ pc.needs.length}) => match iZ with | ⟨⟨u, q⟩, hq⟩ => 0) (fun (iZ : {zz : Value × Nat // zz.2 ≤ pc.needs.length}) => match iZ with | ⟨⟨u, q⟩, hq⟩ => pc.needs.length - q) ⟨(.slice none 0 0, 0), Nat.zero_le _⟩ (Le.mk hB [0, 1, 2] ⟨rfl, rfl, rfl, rfl, rfl, trivial⟩ rfl rfl (Nat.le_refl _)) ?_
 rintro ⟨⟨u, q⟩, hq⟩
 show VC _ _ _ _ ⟨[(7, .v u), (20, avI (q : Int))] ++ [(3, _), (18, _), (19, _)], [boxOr g3 x 110, .box g5 ⟨[avS pc.product, avI pc.cycle, avL pc.needs], 115, 3⟩, .row u (kitN (pc.needs.take q) x.count).length 2 (rowL (kitN (pc.needs.take q) x.count)) 90], 0⟩
 simp only at hq
 have hkl := kitN_len (pc.needs.take q) x.count
 have htl : (pc.needs.take q).length ≤ 1000 := by rw [List.length_take]; omega
 refine VC.sr ?_
 refine VO.vv (OpV.lss rfl rfl rfl) ?_
 refine VO.nil ?_
 refine VC.seq ?_
 refine VC.cond rfl (fun aH1b => ?_) (fun aH1b => ?_)
 ·have aH1 := aH1b
  try simp only [qq] at aH1
  refine VC.skip ?_
  refine VC.seq ?_
  refine VC.block ?_
  refine VC.sr ?_
  refine VO.vv (OpV.indexAddr_E rfl Tryz.underlying68 Tryz.sizeOf90 rfl rfl rfl (by omega)) ?_
  refine VO.vv (OpV.loadK_at rfl hB OutW.no Tryz.isAgg90 Tryz.sizeOf90 rfl rfl) ?_
  refine VO.op rfl (OpE.alloc rfl hB rfl Tryz.zeroValue90 rfl ?_)
  intro g9
  refine VO.op rfl (OpE.store (i := 3) rfl hB rfl Tryz.sizeOf90 rfl rfl rfl rfl rfl rfl (Nle rfl) trivial ?_)
  refine VO.nil ?_
  refine VC.region ?_
  refine VO.mw ?_
  refine VO.vv (OpV.fieldAddrO 0 rfl Tryz.underlying90 rfl rfl Tryz.sizeOf9 rfl) ?_
  refine VO.vv (OpV.load_own (i := 3) rfl hB Tryz.isAgg9 rfl rfl rfl (fun h => h)) ?_
  refine VO.vv (OpV.fieldAddrO 1 rfl Tryz.underlying90 rfl rfl Tryz.sizeOf3 rfl) ?_
  refine VO.vv (OpV.load_own (i := 3) rfl hB Tryz.isAgg3 rfl rfl rfl (fun h => h)) ?_
  refine VO.vv (OpV.fieldAddrO 2 rfl Tryz.underlying110 rfl rfl Tryz.sizeOf3 rfl) ?_
  refine VO.vv (OpV.load_own (i := 0) rfl hB Tryz.isAgg3 rfl rfl rfl (fun h => h)) ?_
  refine VO.vv (OpV.mul rfl rfl rfl (by have h := mul_fit hn hc q; unfold fits; omega)) ?_
  refine VO.vv (OpV.build (pls := #[(0, 1), (1, 1)]) rfl Tryz.zeroValue90 Tryz.underlying90 (fun w => by kernel_rfl) rfl rfl) ?_
  refine VO.op rfl (OpE.buildSlice (zc := #[.string ⟨#[]⟩, .int .i64 0]) rfl hB rfl Tryz.underlying68 Tryz.sizeOf90 Tryz.zeroValue90 (by decide) (by decide) (by kernel_rfl) rfl rfl ?_)
  refine VO.op rfl (OpE.append1 (i := 2) rfl hB rfl Tryz.underlying68 (infoOf Tryz.t90 2 (by kernel_rfl) rfl rfl) rfl (by decide) (by decide) rfl rfl rfl rfl (rowL_snoc _ (⟨(pc.needs.getD q default).key, (pc.needs.getD q default).count * x.count⟩ : NeedS)) (by omega) (fun _ _ => trivial) ?_)
  intro u2
  refine VO.mb ?_
  refine VO.nil ?_
  refine VC.region ?_
  refine VO.vv (OpV.add rfl rfl rfl (by unfold fits; omega)) ?_
  refine VO.mw ?_
  refine VO.nil ?_
  exact Exists.intro (⟨(u2, q + 1), by show _ ≤ _; omega⟩) (And.intro (Le.mk hB [0, 1, 2] ⟨rfl, rfl, rfl, rfl, rfl, trivial⟩ rfl (by dsimp only; rw [kitN_take (by omega), List.length_append]; rfl) (Nat.le_refl _)) (by first | omega | (show _ < _; omega) | (simp only []; omega)))
 ·have aH1 := aH1b
  try simp only [qq] at aH1
  refine VC.exit ?_
  refine VC.seq ?_
  have hqe : pc.needs.take q = pc.needs := List.take_of_length_le (by omega)
  rw [hqe]
  refine VC.region ?_
  refine VO.mw ?_
  refine VO.mb ?_
  refine VO.nil ?_
  refine VC.ret ?_
  exact Exists.intro _ (And.intro (RetN.one Tryz.results113 (ResN.rowT (i := 2) rfl rfl rfl (flat_need _))) (rfl))
theorem plan_kitOf {p : List PaceS} {x : OrdrS} (hl : p.length ≤ 1000000) (hp : paceF p = 0) (hc : 1 ≤ x.count ∧ x.count ≤ 100000) : SpecN Tryz.prog 113 [avL p, avOr x] (fun y => y = avL (kitL p x)) := plan_kitOfX hl (pace_rise (pacesOk hp)) rfl (pace_needs hp _) hc
theorem plan_stocked {p : List PaceS} {o : List OrdrS} {st : List NeedS} (hp : SmPc p) (ho : SmOr o) (hs : SmN st) :
  SpecN Tryz.prog 112 [avL p, avL o, avL st] (fun y => y = avI (stkE p o st)) := by
 refine SpecN.of_VCN Tryz.func112 rfl Tryz.ntmps112 (Nle rfl) fun w A hB => ?_
 refine VC.sr ?_
 refine VO.mb ?_
 refine VO.nil ?_
 refine VC.seq ?_
 refine VC.sr ?_
 refine VO.mw ?_
 refine VO.mw ?_
 refine VO.op rfl (OpE.call rfl hB rfl Tryz.call103 rfl (SpecN.spec (plan_fault hp ho)) ?_)
 rintro _ rfl
 refine VO.mb ?_
 refine VO.nil ?_
 refine VC.sr ?_
 refine VO.mw ?_
 refine VO.vv (OpV.neq rfl rfl rfl) ?_
 refine VO.nil ?_
 refine VC.cond rfl (fun h0b => ?_) (fun h0b => ?_)
 ·have h0 := h0b
  try simp only [qq] at h0
  refine VC.sr ?_
  refine VO.mw ?_
  refine VO.mb ?_
  refine VO.nil ?_
  refine VC.ret ?_
  exact Exists.intro _ (And.intro (RetN.one Tryz.results112 (ResN.v rfl)) (by rw [stkE_1 h0]))
 ·have h0 := h0b
  try simp only [qq] at h0
  refine VC.skip ?_
  refine VC.sr ?_
  refine VO.mw ?_
  refine VO.op rfl (OpE.call rfl hB rfl Tryz.call193 rfl (SpecN.spec (line_NeedsFault (by have := hs.len; omega) (fun i => by have := hs.key i; omega))) ?_)
  rintro _ rfl
  refine VO.mb ?_
  refine VO.nil ?_
  refine VC.ret ?_
  exact Exists.intro _ (And.intro (RetN.one Tryz.results112 (ResN.v rfl)) (by rw [stkE_2 (by omega)]))
theorem plan_Kit1 {x : OrdrS} {k : ByteArray}  :
  SpecN Tryz.prog 118 [avT x, avS k] (fun y => y = avI (cmpB x.key k)) := by
 refine SpecN.of_VCN Tryz.func118 rfl Tryz.ntmps118 (Nle rfl) fun w A hB => ?_
 refine VC.sr ?_
 refine VO.op rfl (OpE.box rfl hB rfl rfl rfl ?_)
 intro g2
 refine VO.mb ?_
 refine VO.nil ?_
 refine VC.sr ?_
 refine VO.vv (OpV.fieldAddrO 0 rfl Tryz.underlying110 rfl rfl Tryz.sizeOf9 rfl) ?_
 refine VO.vv (OpV.load_own (i := 0) rfl hB Tryz.isAgg9 rfl rfl rfl (fun h => h)) ?_
 refine VO.mw ?_
 refine VO.op rfl (OpE.call rfl hB rfl Tryz.call95 rfl (SpecN.spec (strings_Compare_S)) ?_)
 rintro _ rfl
 refine VO.mb ?_
 refine VO.nil ?_
 refine VC.ret ?_
 exact Exists.intro _ (And.intro (RetN.one Tryz.results118 (ResN.v rfl)) (rfl))
theorem bsf_ordr {xs : List OrdrS} {t : ByteArray} {F : FuncId} {cs : List AV} {c : OrdrS → Int} {s0 : Nat} (hl : xs.length ≤ 1000000) (hcall : ∀ us w, (callFunc F us).run Tryz.prog w = .ok (.enter F us) w) (hF : ∀ x, Spec Tryz.prog F ([avT x, avS t] ++ cs) (fun y => y = avI (c x))) (hs : s0 ≤ xs.length) (hlo : ∀ j, j < s0 → c (xs.getD j default) < 0) (hhi : ∀ j, s0 ≤ j → j < xs.length → 0 ≤ c (xs.getD j default)) :
  SpecN Tryz.prog 117 [avL xs, avS t, .fn F cs] (fun y => y = .tup [avI (s0 : Int), avB (decide (s0 < xs.length) && decide (c (xs.getD s0 default) = 0))]) := by
 refine SpecN.of_VCN Tryz.func117 rfl Tryz.ntmps117 (Nle rfl) fun w A hB => ?_
 refine VC.sr ?_
 refine VO.mb ?_
 refine VO.mb ?_
 refine VO.nil ?_
 refine VC.sr ?_
 refine VO.mw ?_
 refine VO.vv (OpV.len_im rfl Tryz.underlying93 rfl) ?_
 refine VO.mb ?_
 refine VO.nil ?_
 refine VC.sr ?_
 refine VO.mw ?_
 refine VO.mb ?_
 refine VO.mb ?_
 refine VO.nil ?_
 refine VC.seq ?_
 refine VC.block ?_
 refine VC.loopK [(0, _), (1, _), (2, _), (8, _)] ⟨rfl, rfl, rfl, rfl, trivial⟩ ({z : Nat × Nat // z.1 ≤ s0 ∧ s0 ≤ z.2 ∧ z.2 ≤ xs.length}) (fun (iZ : {z : Nat × Nat // z.1 ≤ s0 ∧ s0 ≤ z.2 ∧ z.2 ≤ xs.length}) => match iZ with | ⟨⟨i, j⟩, h1, h2, h3⟩ => [(9, avI (i : Int)), (10, avI (j : Int))]) (fun (iZ : {z : Nat × Nat // z.1 ≤ s0 ∧ s0 ≤ z.2 ∧ z.2 ≤ xs.length}) => match iZ with | ⟨⟨i, j⟩, h1, h2, h3⟩ => []) (fun (iZ : {z : Nat × Nat // z.1 ≤ s0 ∧ s0 ≤ z.2 ∧ z.2 ≤ xs.length}) => match iZ with | ⟨⟨i, j⟩, h1, h2, h3⟩ => 0) (fun (iZ : {z : Nat × Nat // z.1 ≤ s0 ∧ s0 ≤ z.2 ∧ z.2 ≤ xs.length}) => match iZ with | ⟨⟨i, j⟩, h1, h2, h3⟩ => j - i) ⟨(0, xs.length), Nat.zero_le _, hs, Nat.le_refl _⟩ (Le.mk hB [] ⟨rfl, rfl, rfl, rfl, rfl, rfl, trivial⟩ rfl rfl (Nat.le_refl _)) ?_
 rintro ⟨⟨i, j⟩, h1, h2, h3⟩
 show VC _ _ _ _ ⟨[(9, avI (i : Int)), (10, avI (j : Int))] ++ [(0, _), (1, _), (2, _), (8, _)], [], 0⟩
 simp only at h1 h2 h3
 refine VC.seq ?_
 refine VC.sr ?_
 refine VO.mw ?_
 refine VO.mw ?_
 refine VO.vv (OpV.lss rfl rfl rfl) ?_
 refine VO.nil ?_
 refine VC.cond rfl (fun aH1b => ?_) (fun aH1b => ?_)
 ·have aH1 := aH1b
  try simp only [qq] at aH1
  refine VC.skip ?_
  refine VC.block ?_
  refine VC.sr ?_
  refine VO.mw ?_
  refine VO.mw ?_
  refine VO.vv (OpV.add rfl rfl rfl (by unfold fits; omega)) ?_
  refine VO.vv (OpV.conv rfl Tryz.underlying3 Tryz.underlying282 rfl (IntWalk.u64_in _ (by omega))) ?_
  refine VO.vv (OpV.shr1 rfl rfl rfl rfl (by omega)) ?_
  refine VO.vv (OpV.conv rfl Tryz.underlying282 Tryz.underlying3 rfl (IntWalk.i64_in _ (by omega))) ?_
  refine VO.mb ?_
  refine VO.nil ?_
  refine VC.sr ?_
  refine VO.mw ?_
  refine VO.mw ?_
  refine VO.mw ?_
  refine VO.vv (OpV.indexAddr_E rfl Tryz.underlying93 Tryz.sizeOf110 rfl rfl (Int.toNat_of_nonneg (by omega)).symm (by omega)) ?_
  refine VO.vv (OpV.loadK_at rfl hB OutW.no Tryz.isAgg110 Tryz.sizeOf110 rfl rfl) ?_
  refine VO.mw ?_
  refine VO.op rfl (OpE.callF rfl hB rfl hcall rfl rfl (hF _) ?_)
  rintro _ rfl
  refine VO.vv (OpV.lss rfl rfl rfl) ?_
  refine VO.nil ?_
  refine VC.cond rfl (fun hcb => ?_) (fun hcb => ?_)
  ·have hc := hcb
   try simp only [qq] at hc
   refine VC.region ?_
   refine VO.mw ?_
   refine VO.vv (OpV.add rfl rfl rfl (by unfold fits; omega)) ?_
   refine VO.mb ?_
   refine VO.nil ?_
   exact Exists.intro (⟨((((i : Int) + j) / 2).toNat + 1, j), bsf_lo hhi (by omega) hc, h2, h3⟩) (And.intro (Le.mk hB [] ⟨(by first | rfl | exact congrArg (fun z => some (avI z)) (by omega)), (by first | rfl | exact congrArg (fun z => some (avI z)) (by omega)), rfl, rfl, rfl, rfl, trivial⟩ rfl rfl (Nat.le_refl _)) (by first | omega | (show _ < _; omega) | (simp only []; omega)))
  ·have hc := hcb
   try simp only [qq] at hc
   refine VC.region ?_
   refine VO.mw ?_
   refine VO.mb ?_
   refine VO.nil ?_
   exact Exists.intro (⟨(i, (((i : Int) + j) / 2).toNat), h1, bsf_hi (h := (((i : Int) + j) / 2).toNat) hlo hc, by show _ ≤ xs.length; omega⟩) (And.intro (Le.mk hB [] ⟨(by first | rfl | exact congrArg (fun z => some (avI z)) (by omega)), (by first | rfl | exact congrArg (fun z => some (avI z)) (by omega)), rfl, rfl, rfl, rfl, trivial⟩ rfl rfl (Nat.le_refl _)) (by first | omega | (show _ < _; omega) | (simp only []; omega)))
 ·have aH1 := aH1b
  try simp only [qq] at aH1
  obtain rfl : i = s0 := by omega
  refine VC.exit ?_
  refine VC.sr ?_
  refine VO.mw ?_
  refine VO.mw ?_
  refine VO.mw ?_
  refine VO.vv (OpV.lss rfl rfl rfl) ?_
  refine VO.mw ?_
  refine VO.opG rfl rfl rfl rfl (fun aK2b => ?_) (fun aK2b => ?_)
  ·replace aK2b : _ = true := aK2b
   have aK2 := aK2b
   try simp only [qq] at aK2
   refine OpE.val (W := NoB) (OpV.move (.inl rfl) rfl) rfl ?_
   refine VO.opY rfl rfl rfl rfl aK2b ?_
   refine OpE.val (W := NoB) (OpV.move (.inl rfl) rfl) rfl ?_
   refine VO.opY rfl rfl rfl rfl aK2b ?_
   refine OpE.val (W := NoB) (OpV.move (.inl rfl) rfl) rfl ?_
   refine VO.opY rfl rfl rfl rfl aK2b ?_
   refine OpE.val (W := NoB) (OpV.indexAddr_E rfl Tryz.underlying93 Tryz.sizeOf110 rfl rfl rfl (by omega)) rfl ?_
   refine VO.opY rfl rfl rfl rfl aK2b ?_
   refine OpE.val (W := NoB) (OpV.loadK_at rfl hB OutW.no Tryz.isAgg110 Tryz.sizeOf110 rfl rfl) rfl ?_
   refine VO.opY rfl rfl rfl rfl aK2b ?_
   refine OpE.val (W := NoB) (OpV.move (.inl rfl) rfl) rfl ?_
   refine VO.opY rfl rfl rfl rfl aK2b ?_
   refine OpE.callF rfl hB rfl hcall rfl rfl (hF _) ?_
   rintro _ rfl
   refine VO.opY rfl rfl rfl rfl aK2b ?_
   refine OpE.val (W := NoB) (OpV.eql rfl rfl rfl) rfl ?_
   refine VO.vv (OpV.pickT rfl rfl rfl rfl aK2b) ?_
   refine VO.mb ?_
   refine VO.mb ?_
   refine VO.nil ?_
   refine VC.ret ?_
   exact Exists.intro _ (And.intro (RetN.two Tryz.results117 (ResN.v rfl) (ResN.v rfl)) (by first | (rw [decide_eq_true (show i < xs.length by omega)]; rfl) | (rw [decide_eq_false (show ¬ i < xs.length by omega)]; rfl)))
  ·replace aK2b : _ = false := aK2b
   have aK2 := aK2b
   try simp only [qq] at aK2
   refine VO.opX rfl rfl rfl rfl aK2b ?_
   refine VO.opX rfl rfl rfl rfl aK2b ?_
   refine VO.opX rfl rfl rfl rfl aK2b ?_
   refine VO.opX rfl rfl rfl rfl aK2b ?_
   refine VO.opX rfl rfl rfl rfl aK2b ?_
   refine VO.opX rfl rfl rfl rfl aK2b ?_
   refine VO.opX rfl rfl rfl rfl aK2b ?_
   refine VO.vv (OpV.pickF rfl rfl rfl rfl aK2b) ?_
   refine VO.mb ?_
   refine VO.mb ?_
   refine VO.nil ?_
   refine VC.ret ?_
   exact Exists.intro _ (And.intro (RetN.two Tryz.results117 (ResN.v rfl) (ResN.v rfl)) (by first | (rw [decide_eq_true (show i < xs.length by omega)]; rfl) | (rw [decide_eq_false (show ¬ i < xs.length by omega)]; rfl)))
def hasO (o : List OrdrS) (k : ByteArray) : Bool := o.any fun x => sEq x.key k
def kitE (p : List PaceS) (o : List OrdrS) (k : ByteArray) : Int := if bothF p o ≠ 0 then bothF p o else if hasO o k = true then 0 else 8
theorem kitE_1 {p : List PaceS} {o : List OrdrS} {k : ByteArray} (h : bothF p o ≠ 0) : kitE p o k = bothF p o := by rw [kitE, if_pos h]
theorem kitE_8 {p : List PaceS} {o : List OrdrS} {k : ByteArray} (h : bothF p o = 0) (h2 : hasO o k = false) : kitE p o k = 8 := by rw [kitE, if_neg (by omega), if_neg (by rw [h2]; simp)]
theorem kitE_0 {p : List PaceS} {o : List OrdrS} {k : ByteArray} (h : bothF p o = 0) (h2 : hasO o k = true) : kitE p o k = 0 := by rw [kitE, if_neg (by omega), if_pos h2]
theorem low_fidx {o : List OrdrS} {k : ByteArray} (hr : RiseK OrdrS.key o) (h1 : lowK OrdrS.key o k < o.length) (h2 : sEq (o.getD (lowK OrdrS.key o k) default).key k = true) : fidx (fun x => sEq x.key k) o = (lowK OrdrS.key o k : Int) :=
 fidx_found (d := default) h1 (fun j hj => by
  have := lowK_lt (key := OrdrS.key) (l := o) (k := k) hj
  cases h : sEq (o.getD j default).key k with
  | false => rfl
  | true => rw [sEq_eq.1 h, sLt_irr] at this; cases this) h2
theorem plan_amounts {l : List NeedS} (hl : l.length ≤ 1000000) (hb : ∀ y ∈ l, 0 ≤ y.count ∧ y.count ≤ 1000000000) :
  SpecH Tryz.prog 114 [avL l] [] (fun y hp' => ∃ g, y = .v (.map (some g)) ∧ hp' = [mapE kvS g eI (amtP l)]) := by
 refine SpecH.of_VC Tryz.func114 rfl Tryz.ntmps114 (Nle rfl) fun w A hB => ?_
 refine VC.sr ?_
 refine VO.mb ?_
 refine VO.nil ?_
 refine VC.sr ?_
 refine VO.op rfl (OpE.makeMap (kvS) (eI) rfl hB rfl ?_)
 intro g6
 refine VO.mb ?_
 refine VO.nil ?_
 refine VC.seq ?_
 refine VC.sr ?_
 refine VO.mw ?_
 refine VO.vv (OpV.len_im rfl Tryz.underlying68 rfl) ?_
 refine VO.mw ?_
 refine VO.nil ?_
 refine VC.block ?_
 refine VC.loopK [(3, _), (7, _), (8, _)] ⟨rfl, rfl, rfl, trivial⟩ ({q : Nat // q ≤ l.length}) (fun (iZ : {q : Nat // q ≤ l.length}) => match iZ with | ⟨q, hq⟩ => [(9, avI (q : Int))]) (fun (iZ : {q : Nat // q ≤ l.length}) => match iZ with | ⟨q, hq⟩ => [mapE kvS g6 eI (amtP (l.take q))]) (fun (iZ : {q : Nat // q ≤ l.length}) => match iZ with | ⟨q, hq⟩ => 0) (fun (iZ : {q : Nat // q ≤ l.length}) => match iZ with | ⟨q, hq⟩ => l.length - q) ⟨0, Nat.zero_le _⟩ (Le.mk hB [0] ⟨rfl, rfl, rfl, rfl, trivial⟩ rfl rfl (Nat.le_refl _)) ?_
 rintro ⟨q, hq⟩
 show VC _ _ _ _ ⟨[(9, avI (q : Int))] ++ [(3, _), (7, _), (8, _)], [mapE kvS g6 eI (amtP (l.take q))], 0⟩
 have hb1 := amt_bd hl hb q
 have hb2 := need_bd (by decide) hb q
 refine VC.sr ?_
 refine VO.vv (OpV.lss rfl rfl rfl) ?_
 refine VO.nil ?_
 refine VC.seq ?_
 refine VC.cond rfl (fun aH1b => ?_) (fun aH1b => ?_)
 ·have aH1 := aH1b
  try simp only [qq] at aH1
  refine VC.skip ?_
  refine VC.seq ?_
  refine VC.block ?_
  refine VC.sr ?_
  refine VO.vv (OpV.indexAddr_E rfl Tryz.underlying68 Tryz.sizeOf90 rfl rfl rfl (by omega)) ?_
  refine VO.vv (OpV.loadK_at rfl hB OutW.no Tryz.isAgg90 Tryz.sizeOf90 rfl rfl) ?_
  refine VO.op rfl (OpE.alloc rfl hB rfl Tryz.zeroValue90 rfl ?_)
  intro g5
  refine VO.op rfl (OpE.store (i := 1) rfl hB rfl Tryz.sizeOf90 rfl rfl rfl rfl rfl rfl (Nle rfl) trivial ?_)
  refine VO.nil ?_
  refine VC.region ?_
  refine VO.mw ?_
  refine VO.vv (OpV.fieldAddrO 0 rfl Tryz.underlying90 rfl rfl Tryz.sizeOf9 rfl) ?_
  refine VO.vv (OpV.load_own (i := 1) rfl hB Tryz.isAgg9 rfl rfl rfl (fun h => h)) ?_
  refine VO.vv (OpV.lookup_own (i := 0) rfl hB Tryz.underlying208 (KeyOk.str Tryz.underlying9) Tryz.zeroValue3 rfl (KeyE.v rfl) rfl (fun h => h)) ?_
  refine VO.le _ (Le.recast (t := 16) (y := avI (mgetD (amtP (l.take q)) (l.getD q default).key 0)) rfl (fun w Z u h => by unfold mgetD; revert h; cases mget (amtP (l.take q)) (l.getD q default).key <;> exact id)) ?_
  refine VO.vv (OpV.fieldAddrO 1 rfl Tryz.underlying90 rfl rfl Tryz.sizeOf3 rfl) ?_
  refine VO.vv (OpV.load_own (i := 1) rfl hB Tryz.isAgg3 rfl rfl rfl (fun h => h)) ?_
  refine VO.vv (OpV.add rfl rfl rfl (by have h := hb1 (l.getD q default).key; unfold fits; omega)) ?_
  refine VO.op rfl (OpE.mapUpdate (i := 0) (xx := mgetD (amtP (l.take q)) (l.getD q default).key 0 + (l.getD q default).count) rfl hB rfl Tryz.underlying208 (KeyOk.str Tryz.underlying9) rfl (KeyE.v rfl) rfl rfl trivial ?_)
  refine VO.nil ?_
  refine VC.region ?_
  refine VO.vv (OpV.add rfl rfl rfl (by unfold fits; omega)) ?_
  refine VO.mw ?_
  refine VO.nil ?_
  exact Exists.intro (⟨q + 1, by omega⟩) (And.intro (Le.mk hB [0] ⟨rfl, rfl, rfl, rfl, trivial⟩ rfl (by dsimp only; rw [amtP_take (by omega)]; rfl) (Nat.le_refl _)) (by first | omega | (show _ < _; omega) | (simp only []; omega)))
 ·have aH1 := aH1b
  try simp only [qq] at aH1
  refine VC.exit ?_
  refine VC.seq ?_
  have hqe : l.take q = l := List.take_of_length_le (by omega)
  rw [hqe]
  refine VC.region ?_
  refine VO.mw ?_
  refine VO.mb ?_
  refine VO.nil ?_
  refine VC.ret ?_
  exact Exists.intro _ (And.intro (RetV.one Tryz.results114 (ResV.tmp rfl)) (⟨_, rfl, rfl⟩))
theorem plan_Short1 {x z : NeedS}  :
  SpecN Tryz.prog 116 [avNd x, avNd z] (fun y => y = avI (cmpB x.key z.key)) := by
 refine SpecN.of_VCN Tryz.func116 rfl Tryz.ntmps116 (Nle rfl) fun w A hB => ?_
 refine VC.sr ?_
 refine VO.op rfl (OpE.box rfl hB rfl rfl rfl ?_)
 intro g2
 refine VO.op rfl (OpE.box rfl hB rfl rfl rfl ?_)
 intro g3
 refine VO.mb ?_
 refine VO.nil ?_
 refine VC.sr ?_
 refine VO.vv (OpV.fieldAddrO 0 rfl Tryz.underlying90 rfl rfl Tryz.sizeOf9 rfl) ?_
 refine VO.vv (OpV.load_own (i := 0) rfl hB Tryz.isAgg9 rfl rfl rfl (fun h => h)) ?_
 refine VO.vv (OpV.fieldAddrO 0 rfl Tryz.underlying90 rfl rfl Tryz.sizeOf9 rfl) ?_
 refine VO.vv (OpV.load_own (i := 1) rfl hB Tryz.isAgg9 rfl rfl rfl (fun h => h)) ?_
 refine VO.op rfl (OpE.call rfl hB rfl Tryz.call95 rfl (SpecN.spec (strings_Compare_S)) ?_)
 rintro _ rfl
 refine VO.mb ?_
 refine VO.nil ?_
 refine VC.ret ?_
 exact Exists.intro _ (And.intro (RetN.one Tryz.results116 (ResN.v rfl)) (rfl))
theorem keys_bd {l : List NeedS} {ks : List ByteArray} (h : ∀ y ∈ l, y.key ∈ ks) : (amtP l).length ≤ ks.length := by
 have := nodup_bd (amtP_nodup l) (r := ks) fun x hx => by
  obtain ⟨y, hy, rfl⟩ := amtP_mem.1 hx
  exact h y hy
 simpa using this
theorem amtP_val {l : List NeedS} {j : Nat} (h : j < (amtP l).length) : ((amtP l).getD j default).2 = sumK l ((amtP l).getD j default).1 := by
 rw [← amtP_get, List.getD_eq_getElem?_getD, List.getElem?_eq_getElem h]
 exact (mget_mem (amtP_nodup l) (List.getElem_mem h)).symm
theorem kits_bd {p : List PaceS} {o : List OrdrS} (h : paceF p = 0) (h2 : ordrF o = 0) : ∀ y ∈ kitsL p o, 0 ≤ y.count ∧ y.count ≤ 100000000 := fun y hy => by
 obtain ⟨x, hx, hy⟩ := List.mem_flatMap.1 hy
 obtain ⟨i, hi, rfl⟩ := List.getElem_of_mem hx
 have := ordr_count h2 hi
 rw [List.getD_eq_getElem?_getD, List.getElem?_eq_getElem hi] at this
 exact kit_bd h this y hy
theorem kits_len {p : List PaceS} (h : paceF p = 0) : ∀ (o : List OrdrS), (kitsL p o).length ≤ 1000 * o.length
 | [] => by simp [kitsL]
 | x :: o => by
  have := kits_len h o
  have := kit_len (x := x) h
  unfold kitsL at *
  rw [List.flatMap_cons, List.length_append, List.length_cons]; omega
structure CovI (p : List PaceS) (o : List OrdrS) (st : List NeedS) (l : List Int) (q : Nat) (mm : List (ByteArray × Int)) (cl : List ByteArray) : Prop where
 eq : covR p o st (l.take q) = (mm, cl)
 bd : MBd (1000000000000 + 100000000000 * q) mm
 len : cl.length ≤ q
theorem CovI.zero {p : List PaceS} {o : List OrdrS} {st : List NeedS} {l : List Int} (hb : ∀ y ∈ st, 0 ≤ y.count ∧ y.count ≤ 1000000000) (hl : st.length ≤ 1000) : CovI p o st l 0 (amtP st) [] :=
 ⟨by simp [covR], (MBd.amt (by decide) hb).mono (by omega), Nat.le_refl _⟩
section
variable {p : List PaceS} {o : List OrdrS} {st : List NeedS} {l : List Int} {q i : Nat} {mm : List (ByteArray × Int)} {cl : List ByteArray} {kt : List NeedS}
theorem CovI.skip (h : CovI p o st l q mm cl) (hq : q < l.length) (hi : l.getD q 0 = (i : Int)) (hk : kitL p (o.getD i default) = kt) (ht : kt.any (fun n => decide (mgetD mm n.key 0 < n.count)) = true) : CovI p o st l (q + 1) mm cl := by
 refine ⟨?_, h.bd.mono (by omega), by have := h.len; omega⟩
 rw [covR_take hq, h.eq, hi, covS_t]
 show covT mm (kitL p (o.getD (i : Int).toNat default)) = true
 rw [Int.toNat_natCast, hk]; exact ht
theorem CovI.take (h : CovI p o st l q mm cl) (hq : q < l.length) (hi : l.getD q 0 = (i : Int)) (hk : kitL p (o.getD i default) = kt) (ht : kt.any (fun n => decide (mgetD mm n.key 0 < n.count)) = false) (hb : ∀ y ∈ kt, 0 ≤ y.count ∧ y.count ≤ 100000000) (hl : kt.length ≤ 1000) : CovI p o st l (q + 1) (subP mm kt) (cl ++ [(o.getD i default).key]) := by
 refine ⟨?_, (h.bd.sub (by decide) hb).mono (by omega), by have := h.len; rw [List.length_append]; simp; omega⟩
 rw [covR_take hq, h.eq, hi, covS_f]
 ·show (subP mm (kitL p (o.getD (i : Int).toNat default)), _) = _
  rw [Int.toNat_natCast, hk]
 ·show covT mm (kitL p (o.getD (i : Int).toNat default)) = false
  rw [Int.toNat_natCast, hk]; exact ht
end
end
section
set_option maxHeartbeats 4000000 in
theorem plan_TimesO {p : List PaceS} {o : List OrdrS} {l : List Int} {start each : Int} (hp : SmPc p) (ho : SmOr o) (hl : l.length ≤ 1000000) :
  SpecH Tryz.prog 42 [avL p, avL o, avInts l, avI start, avI each] [] (fun y hp' => ∃ (u : Value) (n : Nat) (xs : List WinS), y = .tup [.v u, avI (scheF p o l start each)] ∧ n = xs.length ∧ hp' = [.row u n 2 (rowL xs) 104]) := by
 refine SpecH.of_VC Tryz.func42 rfl Tryz.ntmps42 (Nle rfl) fun w A hB => ?_
 refine VC.sr ?_
 refine VO.mb ?_
 refine VO.mb ?_
 refine VO.nil ?_
 refine VC.sr ?_
 refine VO.mw ?_
 refine VO.mw ?_
 refine VO.mw ?_
 refine VO.mw ?_
 refine VO.mw ?_
 refine VO.op rfl (OpE.call rfl hB rfl Tryz.call109 rfl (plan_scheduled hp ho hl) ?_)
 rintro _ rfl
 refine VO.mw ?_
 refine VO.vv (OpV.extract rfl rfl rfl) ?_
 refine VO.vv (OpV.extract rfl rfl rfl) ?_
 refine VO.mb ?_
 refine VO.mb ?_
 refine VO.nil ?_
 refine VC.seq ?_
 refine VC.sr ?_
 refine VO.mw ?_
 refine VO.vv (OpV.neq rfl rfl rfl) ?_
 refine VO.nil ?_
 refine VC.cond rfl (fun h0b => ?_) (fun h0b => ?_)
 ·have h0 := h0b
  try simp only [qq] at h0
  have hE : timesR p o l start each = [] := by rw [timesR, if_neg h0]
  refine VC.sr ?_
  refine VO.mw ?_
  refine VO.mb ?_
  refine VO.mb ?_
  refine VO.nil ?_
  refine VC.le _ (Le.nilRow 2 104) ?_
  refine VC.ret ?_
  exact Exists.intro _ (And.intro (RetV.two Tryz.results42 (ResV.tmp rfl) (ResV.tmp rfl)) (⟨_, 0, [], rfl, rfl, rfl⟩))
 ·have h0 := h0b
  try simp only [qq] at h0
  have h00 : scheF p o l start each = 0 := by omega
  have hk := schOk h00
  have hol := hk.ook.len
  have hE : timesR p o l start each = timesQ p o l start each l.length := by rw [timesR, if_pos h00]
  refine VC.le _ (Le.recast (t := 12) (y := .at_ 3 (schC p o each)) rfl (fun w Z u h => by rw [← schAV_ok h00]; exact h)) ?_
  refine VC.skip ?_
  refine VC.sr ?_
  refine VO.mw ?_
  refine VO.vv (OpV.len_im rfl Tryz.underlying93 rfl) ?_
  refine VO.op rfl (OpE.make rfl hB rfl Tryz.underlying99 (infoOf Tryz.t104 2 (by kernel_rfl) rfl rfl) (by decide) rfl rfl (n := o.length) rfl rfl (by omega) (made_win o.length) ?_)
  intro g29
  rw [show (rowL (List.replicate o.length (default : WinS))).length = o.length * 2 by rw [rowL_len, List.length_replicate]; rfl]
  refine VO.op rfl (OpE.alloc rfl hB rfl Tryz.zeroValue99 rfl ?_)
  intro g14
  refine VO.op rfl (OpE.store (i := 1) rfl hB rfl Tryz.sizeOf99 rfl rfl rfl rfl rfl rfl (Nle rfl) trivial ?_)
  refine VO.nil ?_
  refine VC.seq ?_
  refine VC.le _ (Le.pickH [1, 0] rfl rfl) ?_
  refine VC.region ?_
  refine VO.mw ?_
  refine VO.mw ?_
  refine VO.mw ?_
  refine VO.vv (OpV.makeFunc1 rfl rfl) ?_
  refine VO.op rfl (OpE.callH0 rfl hB rfl Tryz.call110 rfl rfl (plan_run hk Tryz.call111 times_does (a := List.replicate o.length default) ⟨by simp, rfl⟩) (List.Perm.refl _) (fun _ _ => trivial) ?_)
  rintro _ _ ⟨_, e1, e2, ⟨hll, rfl⟩, rfl, rfl⟩
  refine VO.le _ (Le.drop 2) ?_
  refine VO.nil ?_
  refine VC.seq ?_
  rw [runA_times]
  refine VC.region ?_
  refine VO.vv (OpV.load_own (i := 0) rfl hB Tryz.isAgg99 rfl rfl rfl (fun h => h)) ?_
  refine VO.mb ?_
  refine VO.mb ?_
  refine VO.nil ?_
  refine VC.le _ (Le.boxRow (i := 1) (n := o.length) (sz := 2) (cap := o.length) rfl (by rw [rowL_len, timesQ_len]; rfl) (Nat.le_refl _) (by simp only [maxLen]; omega)) ?_
  refine VC.le _ (Le.pickH [1] rfl rfl) ?_
  refine VC.ret ?_
  exact Exists.intro _ (And.intro (RetV.two Tryz.results42 (ResV.tmp rfl) (ResV.tmp rfl)) (⟨_, _, timesQ p o l start each l.length, by rw [h00], (timesQ_len _ _ _ _ _ _).symm, rfl⟩))
set_option maxHeartbeats 8000000 in
theorem plan_ShortO {p : List PaceS} {o : List OrdrS} {st : List NeedS} {ks : List ByteArray} (hp : SmPc p) (ho : SmOr o) (hs : SmN st) (hks : ∀ y ∈ kitsL p o, y.key ∈ ks) (hkl : ks.length ≤ 12) :
  SpecH Tryz.prog 44 [avL p, avL o, avL st] [] (fun y hp' => ∃ (u : Value) (n : Nat) (xs : List NeedS), y = .tup [.v u, avI (stkE p o st)] ∧ n = xs.length ∧ hp' = [.row u n 2 (rowL xs) 90]) := by
 have hol := ho.len
 have hpl := hp.len
 have hsl := hs.len
 refine SpecH.of_VC Tryz.func44 rfl Tryz.ntmps44 (Nle rfl) fun w A hB => ?_
 have hnew : True := trivial
 refine VC.sr ?_
 refine VO.mb ?_
 refine VO.mb ?_
 refine VO.nil ?_
 refine VC.seq ?_
 refine VC.sr ?_
 refine VO.mw ?_
 refine VO.mw ?_
 refine VO.mw ?_
 refine VO.op rfl (OpE.call rfl hB rfl Tryz.call112 rfl (SpecN.spec (plan_stocked hp ho hs)) ?_)
 rintro _ rfl
 refine VO.mb ?_
 refine VO.nil ?_
 refine VC.sr ?_
 refine VO.mw ?_
 refine VO.vv (OpV.neq rfl rfl rfl) ?_
 refine VO.nil ?_
 refine VC.cond rfl (fun h0b => ?_) (fun h0b => ?_)
 ·have h0 := h0b
  try simp only [qq] at h0
  refine VC.sr ?_
  refine VO.mw ?_
  refine VO.mb ?_
  refine VO.mb ?_
  refine VO.nil ?_
  refine VC.le _ (Le.nilRow 2 90) ?_
  refine VC.ret ?_
  exact Exists.intro _ (And.intro (RetV.two Tryz.results44 (ResV.tmp rfl) (ResV.tmp rfl)) (⟨_, 0, [], rfl, rfl, rfl⟩))
 ·have h0 := h0b
  try simp only [qq] at h0
  have hz : stkE p o st = 0 := by omega
  obtain ⟨hb, hn⟩ := stk_ok hz
  obtain ⟨hpf, hof⟩ := both_ok hb
  have hol2 := (ordrsOk hof).len
  have hbd := needs_bd hn
  refine VC.skip ?_
  refine VC.sr ?_
  refine VO.mb ?_
  refine VO.nil ?_
  refine VC.seq ?_
  refine VC.sr ?_
  refine VO.mw ?_
  refine VO.vv (OpV.len_im rfl Tryz.underlying93 rfl) ?_
  refine VO.mw ?_
  refine VO.nil ?_
  refine VC.block ?_
  refine VC.le _ (Le.nilRow 2 90) ?_
  refine VC.loopK [(0, _), (2, _), (23, _), (24, _)] ⟨rfl, rfl, rfl, rfl, trivial⟩ ({zz : Value × Nat // zz.2 ≤ o.length}) (fun (iZ : {zz : Value × Nat // zz.2 ≤ o.length}) => match iZ with | ⟨⟨u, q⟩, hq⟩ => [(9, .v u), (25, avI (q : Int))]) (fun (iZ : {zz : Value × Nat // zz.2 ≤ o.length}) => match iZ with | ⟨⟨u, q⟩, hq⟩ => [.row u (kitsL p (o.take q)).length 2 (rowL (kitsL p (o.take q))) 90]) (fun (iZ : {zz : Value × Nat // zz.2 ≤ o.length}) => match iZ with | ⟨⟨u, q⟩, hq⟩ => 0) (fun (iZ : {zz : Value × Nat // zz.2 ≤ o.length}) => match iZ with | ⟨⟨u, q⟩, hq⟩ => o.length - q) ⟨(.slice none 0 0, 0), Nat.zero_le _⟩ (Le.mk hB [0] ⟨rfl, rfl, rfl, rfl, rfl, rfl, trivial⟩ rfl rfl (Nat.le_refl _)) ?_
  rintro ⟨⟨u, q⟩, hq⟩
  show VC _ _ _ _ ⟨[(9, .v u), (25, avI (q : Int))] ++ [(0, _), (2, _), (23, _), (24, _)], [.row u (kitsL p (o.take q)).length 2 (rowL (kitsL p (o.take q))) 90], 0⟩
  simp only at hq
  have hk1 := kits_len hpf (o.take q)
  have hk2 : (o.take q).length ≤ q := by rw [List.length_take]; omega
  have hk3 := kit_len (x := o.getD q default) hpf
  refine VC.sr ?_
  refine VO.vv (OpV.lss rfl rfl rfl) ?_
  refine VO.nil ?_
  refine VC.seq ?_
  refine VC.cond rfl (fun h1b => ?_) (fun h1b => ?_)
  ·have h1 := h1b
   try simp only [qq] at h1
   refine VC.skip ?_
   refine VC.seq ?_
   refine VC.block ?_
   refine VC.sr ?_
   refine VO.vv (OpV.indexAddr_E rfl Tryz.underlying93 Tryz.sizeOf110 rfl rfl rfl (by omega)) ?_
   refine VO.vv (OpV.loadK_at rfl hB OutW.no Tryz.isAgg110 Tryz.sizeOf110 rfl rfl) ?_
   refine VO.op rfl (OpE.alloc rfl hB rfl Tryz.zeroValue110 rfl ?_)
   intro g11
   refine VO.op rfl (OpE.store (i := 1) rfl hB rfl Tryz.sizeOf110 rfl rfl rfl rfl rfl rfl (Nle rfl) trivial ?_)
   refine VO.nil ?_
   refine VC.region ?_
   refine VO.mw ?_
   refine VO.mw ?_
   refine VO.vv (OpV.loadK_own (i := 1) rfl hB Tryz.isAgg110 Tryz.sizeOf110 rfl rfl rfl (fun h => h)) ?_
   refine VO.op rfl (OpE.call rfl hB rfl Tryz.call113 rfl (SpecN.spec (plan_kitOf hpl hpf (ordr_count hof (by omega)))) ?_)
   rintro _ rfl
   refine VO.op rfl (OpE.appendP (i := 0) rfl hB rfl Tryz.underlying68 (infoOf Tryz.t90 2 (by kernel_rfl) rfl rfl) rfl (by decide) (by decide) rfl rfl (.im rfl) (nd_oneK (kitL p (o.getD q default))) (by omega) (app_kit (kitsL p (o.take q)) (kitL p (o.getD q default))) (fun _ _ => trivial) ?_)
   intro u2
   refine VO.mb ?_
   refine VO.nil ?_
   refine VC.region ?_
   refine VO.vv (OpV.add rfl rfl rfl (by unfold fits; omega)) ?_
   refine VO.mw ?_
   refine VO.nil ?_
   exact Exists.intro (⟨(u2, q + 1), by show _ ≤ _; omega⟩) (And.intro (Le.mk hB [0] ⟨rfl, rfl, rfl, rfl, rfl, rfl, trivial⟩ rfl (by dsimp only; rw [kitsL_take (by omega), List.length_append]; rfl) (Nat.le_refl _)) (by first | omega | (show _ < _; omega) | (simp only []; omega)))
  ·have h1 := h1b
   try simp only [qq] at h1
   refine VC.exit ?_
   refine VC.seq ?_
   have hqe : o.take q = o := List.take_of_length_le (by omega)
   refine VC.le _ (Le.rowT (t := 9) (i := 0) (xs := kitsL p (o.take q)) hB hnew rfl rfl rfl) ?_
   obtain ⟨A, hA⟩ : ∃ A, kitsL p o = A := ⟨_, rfl⟩
   refine VC.le _ (Le.recast (t := 9) (y := avL A) rfl (fun w Z u h => by rw [← hA, ← hqe]; exact h)) ?_
   have hAb := kits_bd hpf hof
   have hAl := kits_len hpf o
   have hAk := keys_bd hks
   rw [hA] at hAb hAl hAk
   refine VC.le ⟨[(2, _), (9, _)], [], _⟩ (Le.mk hB [] ⟨rfl, rfl, trivial⟩ rfl rfl (Nat.le_refl _)) ?_
   refine VC.region ?_
   refine VO.mw ?_
   refine VO.op rfl (OpE.callH (hp := []) (rest := _) rfl hB rfl Tryz.call114 rfl rfl (plan_amounts (by omega) hbd) (List.Perm.refl _) (fun _ h => by obtain ⟨e, he, _⟩ := h; cases he) ?_)
   rintro _ _ ⟨g36, rfl, rfl⟩
   refine VO.mb ?_
   refine VO.nil ?_
   refine VC.sr ?_
   refine VO.mb ?_
   refine VO.nil ?_
   refine VC.seq ?_
   refine VC.sr ?_
   refine VO.mw ?_
   refine VO.op rfl (OpE.callH (hp := []) (rest := _) rfl hB rfl Tryz.call114 rfl rfl (plan_amounts (by omega) (fun y hy => by have := hAb y hy; omega)) (List.Perm.refl _) (fun _ h => by obtain ⟨e, he, _⟩ := h; cases he) ?_)
   rintro _ _ ⟨g38, rfl, rfl⟩
   refine VO.le _ (Le.freezeM (t := 38) (i := 0) hB hnew rfl rfl) ?_
   refine VO.op rfl (OpE.rangeM rfl hB rfl Tryz.underlying208 rfl ?_)
   intro g39
   refine VO.nil ?_
   refine VC.block ?_
   refine VC.le _ (Le.nilRow 2 90) ?_
   refine VC.loopK [(12, _), (39, _)] ⟨rfl, rfl, trivial⟩ ({z : Value × List Nat // z.2.Nodup ∧ ∀ j ∈ z.2, j < (amtP A).length}) (fun (iZ : {z : Value × List Nat // z.2.Nodup ∧ ∀ j ∈ z.2, j < (amtP A).length}) => match iZ with | ⟨⟨u, seen⟩, hsd, hsn⟩ => [(13, .v u)]) (fun (iZ : {z : Value × List Nat // z.2.Nodup ∧ ∀ j ∈ z.2, j < (amtP A).length}) => match iZ with | ⟨⟨u, seen⟩, hsd, hsn⟩ => [mapE kvS g36 eI (amtP st), .it g39 (amtP A).length (fun j => kvS ((amtP A).getD j default).1) (fun j => eI ((amtP A).getD j default).2) seen, .row u (pickS (amtP A) st seen).length 2 (rowL (pickS (amtP A) st seen)) 90]) (fun (iZ : {z : Value × List Nat // z.2.Nodup ∧ ∀ j ∈ z.2, j < (amtP A).length}) => match iZ with | ⟨⟨u, seen⟩, hsd, hsn⟩ => 0) (fun (iZ : {z : Value × List Nat // z.2.Nodup ∧ ∀ j ∈ z.2, j < (amtP A).length}) => match iZ with | ⟨⟨u, seen⟩, hsd, hsn⟩ => (amtP A).length - seen.length) ⟨(.slice none 0 0, []), List.nodup_nil, fun j hj => by simp at hj⟩ (Le.mk hB [0, 1, 2] ⟨rfl, rfl, rfl, trivial⟩ rfl rfl (Nat.le_refl _)) ?_
   rintro ⟨⟨u, seen⟩, hsd, hsn⟩
   show VC _ _ _ _ ⟨[(13, .v u)] ++ [(12, _), (39, _)], [mapE kvS g36 eI (amtP st), .it g39 (amtP A).length (fun j => kvS ((amtP A).getD j default).1) (fun j => eI ((amtP A).getD j default).2) seen, .row u (pickS (amtP A) st seen).length 2 (rowL (pickS (amtP A) st seen)) 90], 0⟩
   simp only at hsd hsn
   have hsl := seen_len hsd hsn
   have hpl := pickS_len (amtP A) st seen
   refine VC.sr ?_
   refine VO.op rfl (OpE.nextM (i := 1) rfl hB rfl rfl rfl trivial ?_ ?_)
   ·intro hall40
    refine VO.vv (OpV.extract rfl rfl rfl) ?_
    refine VO.nil ?_
    refine VC.seq ?_
    refine VC.condF rfl rfl ?_
    refine VC.exit ?_
    refine VC.seq ?_
    refine VC.le _ (Le.drop 2) ?_
    refine VC.region ?_
    refine VO.mw ?_
    refine VO.op rfl (OpE.callH0 rfl hB rfl Tryz.call115 rfl rfl (SpecH.fnv (sortFunc_need (l0 := pickS (amtP A) st seen) (F := 116) (cs := []) (c := fun x z => cmpB x.key z.key) (by omega) Tryz.call116 (fun x z => plan_Short1.spec) ltN_trans ltN_as ltN_neg)) (List.Perm.refl _) (fun _ _ => trivial) ?_)
    rintro _ _ ⟨r, hpr, rfl, rfl⟩
    refine VO.nil ?_
    refine VC.sr ?_
    refine VO.mw ?_
    refine VO.mb ?_
    refine VO.mb ?_
    refine VO.nil ?_
    refine VC.ret ?_
    exact Exists.intro _ (And.intro (RetV.two Tryz.results44 (ResV.tmp rfl) (ResV.tmp rfl)) (⟨_, _, r, by rw [hz], hpr.1.length_eq.symm, rfl⟩))
   ·intro j40 hj40 hn40
    have hsd2 : (j40 :: seen).Nodup := List.nodup_cons.2 ⟨hn40, hsd⟩
    have hsn2 : ∀ j ∈ j40 :: seen, j < (amtP A).length := fun j hj => (List.mem_cons.1 hj).elim (fun e => e ▸ hj40) (hsn j)
    have hsl2 := seen_len hsd2 hsn2
    have hsl3 : (j40 :: seen).length = seen.length + 1 := rfl
    have hv1 := amtP_val hj40
    have hv2 := sumK_bd (by decide) hAb ((amtP A).getD j40 default).1
    have hv3 := sumK_bd (by decide) hbd ((amtP A).getD j40 default).1
    refine VO.vv (OpV.extract rfl rfl rfl) ?_
    refine VO.nil ?_
    refine VC.seq ?_
    refine VC.condT rfl rfl ?_
    refine VC.skip ?_
    refine VC.block ?_
    refine VC.sr ?_
    refine VO.vv (OpV.entryM (i := 1) rfl hB rfl rfl) ?_
    refine VO.vv (OpV.extract rfl rfl rfl) ?_
    refine VO.vv (OpV.extract rfl rfl rfl) ?_
    refine VO.mb ?_
    refine VO.mb ?_
    refine VO.nil ?_
    refine VC.sr ?_
    refine VO.mw ?_
    refine VO.mw ?_
    refine VO.mw ?_
    refine VO.vv (OpV.lookup_own (i := 0) rfl hB Tryz.underlying208 (KeyOk.str Tryz.underlying9) Tryz.zeroValue3 rfl (KeyE.v rfl) rfl (fun h => h)) ?_
    refine VO.le _ (Le.recast (t := 48) (y := avI (sumK st ((amtP A).getD j40 default).1)) rfl (fun w Z u h => by rw [← amtP_get]; unfold mgetD; revert h; cases mget (amtP st) ((amtP A).getD j40 default).1 <;> exact id)) ?_
    refine VO.vv (OpV.gtr rfl rfl rfl) ?_
    refine VO.nil ?_
    refine VC.cond rfl (fun k3b => ?_) (fun k3b => ?_)
    ·have k3 := k3b
     try simp only [qq] at k3
     refine VC.region ?_
     refine VO.mw ?_
     refine VO.mw ?_
     refine VO.mw ?_
     refine VO.mw ?_
     refine VO.mw ?_
     refine VO.vv (OpV.lookup_own (i := 0) rfl hB Tryz.underlying208 (KeyOk.str Tryz.underlying9) Tryz.zeroValue3 rfl (KeyE.v rfl) rfl (fun h => h)) ?_
     refine VO.le _ (Le.recast (t := 55) (y := avI (sumK st ((amtP A).getD j40 default).1)) rfl (fun w Z u h => by rw [← amtP_get]; unfold mgetD; revert h; cases mget (amtP st) ((amtP A).getD j40 default).1 <;> exact id)) ?_
     refine VO.vv (OpV.sub rfl rfl rfl (by unfold fits; omega)) ?_
     refine VO.vv (OpV.build (pls := #[(0, 1), (1, 1)]) rfl Tryz.zeroValue90 Tryz.underlying90 (fun w => by kernel_rfl) rfl rfl) ?_
     refine VO.op rfl (OpE.buildSlice (zc := #[.string ⟨#[]⟩, .int .i64 0]) rfl hB rfl Tryz.underlying68 Tryz.sizeOf90 Tryz.zeroValue90 (by decide) (by decide) (by kernel_rfl) rfl rfl ?_)
     refine VO.op rfl (OpE.append1 (i := 2) rfl hB rfl Tryz.underlying68 (infoOf Tryz.t90 2 (by kernel_rfl) rfl rfl) rfl (by decide) (by decide) rfl rfl rfl rfl (rowL_snoc _ (⟨((amtP A).getD j40 default).1, ((amtP A).getD j40 default).2 - sumK st ((amtP A).getD j40 default).1⟩ : NeedS)) (by omega) (fun _ _ => trivial) ?_)
     intro u59
     refine VO.mb ?_
     refine VO.nil ?_
     exact Exists.intro (⟨(u59, j40 :: seen), hsd2, hsn2⟩) (And.intro (Le.mk hB [0, 1, 2] ⟨rfl, rfl, rfl, trivial⟩ rfl (by dsimp only; first | (rw [pickS_t k3, List.length_append]; rfl) | (rw [pickS_f k3]; rfl)) (Nat.le_refl _)) (by first | omega | (show _ < _; omega) | (simp only []; omega)))
    ·have k3 := k3b
     try simp only [qq] at k3
     refine VC.skip ?_
     exact Exists.intro (⟨(u, j40 :: seen), hsd2, hsn2⟩) (And.intro (Le.mk hB [0, 1, 2] ⟨rfl, rfl, rfl, trivial⟩ rfl (by dsimp only; first | (rw [pickS_t k3, List.length_append]; rfl) | (rw [pickS_f k3]; rfl)) (Nat.le_refl _)) (by first | omega | (show _ < _; omega) | (simp only []; omega)))
set_option maxHeartbeats 4000000 in
theorem plan_kitOfO {p : List PaceS} {x : OrdrS} {pc : PaceS} (hl : p.length ≤ 1000000) (hr : RiseK PaceS.product p) (hpc : paceO p x.product = pc) (hn : needsF pc.needs 1 1000 = 0) (hc : 1 ≤ x.count ∧ x.count ≤ 100000) :
  SpecH Tryz.prog 113 [avL p, avOr x] [] (fun y hp' => ∃ u : Value, y = .v u ∧ hp' = [.row u (kitN pc.needs x.count).length 2 (rowL (kitN pc.needs x.count)) 90]) := by
 have hnl := needsF_lenP hn
 refine SpecH.of_VC Tryz.func113 rfl Tryz.ntmps113 (Nle rfl) fun w A hB => ?_
 refine VC.sr ?_
 refine VO.op rfl (OpE.box rfl hB rfl rfl rfl ?_)
 intro g3
 refine VO.mb ?_
 refine VO.nil ?_
 refine VC.sr ?_
 refine VO.mw ?_
 refine VO.vv (OpV.fieldAddrO 1 rfl Tryz.underlying110 rfl rfl Tryz.sizeOf9 rfl) ?_
 refine VO.vv (OpV.load_own (i := 0) rfl hB Tryz.isAgg9 rfl rfl rfl (fun h => h)) ?_
 refine VO.op rfl (OpE.call rfl hB rfl Tryz.call122 rfl (plan_paceOf hl hr) ?_)
 rintro _ rfl
 refine VO.le _ (Le.recast (t := 14) (y := .tup [avPc pc, avB (hasP p x.product)]) rfl (fun w Z u h => by rw [← hpc]; exact h)) ?_
 refine VO.mw ?_
 refine VO.vv (OpV.extract rfl rfl rfl) ?_
 refine VO.vv (OpV.extract rfl rfl rfl) ?_
 refine VO.op rfl (OpE.alloc rfl hB rfl Tryz.zeroValue115 rfl ?_)
 intro g5
 refine VO.op rfl (OpE.store (i := 1) rfl hB rfl Tryz.sizeOf115 rfl rfl rfl rfl rfl rfl (Nle rfl) trivial ?_)
 refine VO.mb ?_
 refine VO.nil ?_
 refine VC.sr ?_
 refine VO.mb ?_
 refine VO.nil ?_
 refine VC.seq ?_
 refine VC.sr ?_
 refine VO.vv (OpV.fieldAddrO 2 rfl Tryz.underlying115 rfl rfl Tryz.sizeOf68 rfl) ?_
 refine VO.vv (OpV.load_own (i := 1) rfl hB Tryz.isAgg68 rfl rfl rfl (fun h => h)) ?_
 refine VO.vv (OpV.len_im rfl Tryz.underlying68 rfl) ?_
 refine VO.mw ?_
 refine VO.nil ?_
 refine VC.block ?_
 refine VC.le _ (Le.nilRow 2 90) ?_
 refine VC.loopK [(3, _), (18, _), (19, _)] ⟨rfl, rfl, rfl, trivial⟩ ({zz : Value × Nat // zz.2 ≤ pc.needs.length}) (fun (iZ : {zz : Value × Nat // zz.2 ≤ pc.needs.length}) => match iZ with | ⟨⟨u, q⟩, hq⟩ => [(7, .v u), (20, avI (q : Int))]) (fun (iZ : {zz : Value × Nat // zz.2 ≤ pc.needs.length}) => match iZ with | ⟨⟨u, q⟩, hq⟩ => [boxOr g3 x 110, .box g5 ⟨[avS pc.product, avI pc.cycle, avL pc.needs], 115, 3⟩, .row u (kitN (pc.needs.take q) x.count).length 2 (rowL (kitN (pc.needs.take q) x.count)) 90]) (fun (iZ : {zz : Value × Nat // zz.2 ≤ pc.needs.length}) => match iZ with | ⟨⟨u, q⟩, hq⟩ => 0) (fun (iZ : {zz : Value × Nat // zz.2 ≤ pc.needs.length}) => match iZ with | ⟨⟨u, q⟩, hq⟩ => pc.needs.length - q) ⟨(.slice none 0 0, 0), Nat.zero_le _⟩ (Le.mk hB [0, 1, 2] ⟨rfl, rfl, rfl, rfl, rfl, trivial⟩ rfl rfl (Nat.le_refl _)) ?_
 rintro ⟨⟨u, q⟩, hq⟩
 show VC _ _ _ _ ⟨[(7, .v u), (20, avI (q : Int))] ++ [(3, _), (18, _), (19, _)], [boxOr g3 x 110, .box g5 ⟨[avS pc.product, avI pc.cycle, avL pc.needs], 115, 3⟩, .row u (kitN (pc.needs.take q) x.count).length 2 (rowL (kitN (pc.needs.take q) x.count)) 90], 0⟩
 simp only at hq
 have hkl := kitN_len (pc.needs.take q) x.count
 have htl : (pc.needs.take q).length ≤ 1000 := by rw [List.length_take]; omega
 refine VC.sr ?_
 refine VO.vv (OpV.lss rfl rfl rfl) ?_
 refine VO.nil ?_
 refine VC.seq ?_
 refine VC.cond rfl (fun aH1b => ?_) (fun aH1b => ?_)
 ·have aH1 := aH1b
  try simp only [qq] at aH1
  refine VC.skip ?_
  refine VC.seq ?_
  refine VC.block ?_
  refine VC.sr ?_
  refine VO.vv (OpV.indexAddr_E rfl Tryz.underlying68 Tryz.sizeOf90 rfl rfl rfl (by omega)) ?_
  refine VO.vv (OpV.loadK_at rfl hB OutW.no Tryz.isAgg90 Tryz.sizeOf90 rfl rfl) ?_
  refine VO.op rfl (OpE.alloc rfl hB rfl Tryz.zeroValue90 rfl ?_)
  intro g9
  refine VO.op rfl (OpE.store (i := 3) rfl hB rfl Tryz.sizeOf90 rfl rfl rfl rfl rfl rfl (Nle rfl) trivial ?_)
  refine VO.nil ?_
  refine VC.region ?_
  refine VO.mw ?_
  refine VO.vv (OpV.fieldAddrO 0 rfl Tryz.underlying90 rfl rfl Tryz.sizeOf9 rfl) ?_
  refine VO.vv (OpV.load_own (i := 3) rfl hB Tryz.isAgg9 rfl rfl rfl (fun h => h)) ?_
  refine VO.vv (OpV.fieldAddrO 1 rfl Tryz.underlying90 rfl rfl Tryz.sizeOf3 rfl) ?_
  refine VO.vv (OpV.load_own (i := 3) rfl hB Tryz.isAgg3 rfl rfl rfl (fun h => h)) ?_
  refine VO.vv (OpV.fieldAddrO 2 rfl Tryz.underlying110 rfl rfl Tryz.sizeOf3 rfl) ?_
  refine VO.vv (OpV.load_own (i := 0) rfl hB Tryz.isAgg3 rfl rfl rfl (fun h => h)) ?_
  refine VO.vv (OpV.mul rfl rfl rfl (by have h := mul_fit hn hc q; unfold fits; omega)) ?_
  refine VO.vv (OpV.build (pls := #[(0, 1), (1, 1)]) rfl Tryz.zeroValue90 Tryz.underlying90 (fun w => by kernel_rfl) rfl rfl) ?_
  refine VO.op rfl (OpE.buildSlice (zc := #[.string ⟨#[]⟩, .int .i64 0]) rfl hB rfl Tryz.underlying68 Tryz.sizeOf90 Tryz.zeroValue90 (by decide) (by decide) (by kernel_rfl) rfl rfl ?_)
  refine VO.op rfl (OpE.append1 (i := 2) rfl hB rfl Tryz.underlying68 (infoOf Tryz.t90 2 (by kernel_rfl) rfl rfl) rfl (by decide) (by decide) rfl rfl rfl rfl (rowL_snoc _ (⟨(pc.needs.getD q default).key, (pc.needs.getD q default).count * x.count⟩ : NeedS)) (by omega) (fun _ _ => trivial) ?_)
  intro u2
  refine VO.mb ?_
  refine VO.nil ?_
  refine VC.region ?_
  refine VO.vv (OpV.add rfl rfl rfl (by unfold fits; omega)) ?_
  refine VO.mw ?_
  refine VO.nil ?_
  exact Exists.intro (⟨(u2, q + 1), by show _ ≤ _; omega⟩) (And.intro (Le.mk hB [0, 1, 2] ⟨rfl, rfl, rfl, rfl, rfl, trivial⟩ rfl (by dsimp only; rw [kitN_take (by omega), List.length_append]; rfl) (Nat.le_refl _)) (by first | omega | (show _ < _; omega) | (simp only []; omega)))
 ·have aH1 := aH1b
  try simp only [qq] at aH1
  refine VC.exit ?_
  refine VC.seq ?_
  have hqe : pc.needs.take q = pc.needs := List.take_of_length_le (by omega)
  rw [hqe]
  refine VC.region ?_
  refine VO.mw ?_
  refine VO.mb ?_
  refine VO.nil ?_
  refine VC.le _ (Le.pickH [2] rfl rfl) ?_
  refine VC.ret ?_
  exact Exists.intro _ (And.intro (RetV.one Tryz.results113 (ResV.tmp rfl)) (⟨_, rfl, rfl⟩))
set_option maxHeartbeats 4000000 in
theorem plan_KitO {p : List PaceS} {o : List OrdrS} {k : ByteArray} (hp : SmPc p) (ho : SmOr o) :
  SpecH Tryz.prog 46 [avL p, avL o, avS k] [] (fun y hp' => ∃ (u : Value) (n : Nat) (xs : List NeedS), y = .tup [.v u, avI (kitE p o k)] ∧ n = xs.length ∧ hp' = [.row u n 2 (rowL xs) 90]) := by
 have hol := ho.len
 have hpl := hp.len
 refine SpecH.of_VC Tryz.func46 rfl Tryz.ntmps46 (Nle rfl) fun w A hB => ?_
 refine VC.sr ?_
 refine VO.mb ?_
 refine VO.mb ?_
 refine VO.nil ?_
 refine VC.seq ?_
 refine VC.sr ?_
 refine VO.mw ?_
 refine VO.mw ?_
 refine VO.op rfl (OpE.call rfl hB rfl Tryz.call103 rfl (SpecN.spec (plan_fault hp ho)) ?_)
 rintro _ rfl
 refine VO.mb ?_
 refine VO.nil ?_
 refine VC.sr ?_
 refine VO.mw ?_
 refine VO.vv (OpV.neq rfl rfl rfl) ?_
 refine VO.nil ?_
 refine VC.cond rfl (fun h0b => ?_) (fun h0b => ?_)
 ·have h0 := h0b
  try simp only [qq] at h0
  refine VC.sr ?_
  refine VO.mw ?_
  refine VO.mb ?_
  refine VO.mb ?_
  refine VO.nil ?_
  refine VC.le _ (Le.nilRow 2 90) ?_
  refine VC.ret ?_
  exact Exists.intro _ (And.intro (RetV.two Tryz.results46 (ResV.tmp rfl) (ResV.tmp rfl)) (⟨_, 0, [], by rw [kitE_1 h0], rfl, rfl⟩))
 ·have h0 := h0b
  try simp only [qq] at h0
  have h00 : bothF p o = 0 := by omega
  have hro := ordr_rise (ordrsOk (both_ok h00).2)
  refine VC.skip ?_
  refine VC.sr ?_
  refine VO.mw ?_
  refine VO.mw ?_
  refine VO.op rfl (OpE.callL rfl hB rfl Tryz.call117 (bsf_ordr (c := fun x => cmpB x.key k) (s0 := lowK OrdrS.key o k) hol Tryz.call118 (fun x => plan_Kit1.spec) lowK_le (lowK_cmp hro).1 (lowK_cmp hro).2) (ArgsP.cons (ArgP.ev rfl) (ArgsP.cons (ArgP.ev rfl) (ArgsP.cons (ArgP.fn0 rfl) (ArgsP.nil)))) ?_)
  rintro _ rfl
  refine VO.mw ?_
  refine VO.vv (OpV.extract rfl rfl rfl) ?_
  refine VO.vv (OpV.extract rfl rfl rfl) ?_
  refine VO.le _ (Le.recast (t := 22) (y := avB (hasO o k)) rfl (fun w Z u h => by rw [hasO, ← lowK_any hro, ← cmp_zero]; exact h)) ?_
  refine VO.mb ?_
  refine VO.mb ?_
  refine VO.nil ?_
  refine VC.seq ?_
  refine VC.sr ?_
  refine VO.mw ?_
  refine VO.vv (OpV.not rfl rfl) ?_
  refine VO.nil ?_
  refine VC.cond rfl (fun h1b => ?_) (fun h1b => ?_)
  ·have h1 := h1b
   try simp only [qq] at h1
   refine VC.sr ?_
   refine VO.mb ?_
   refine VO.mb ?_
   refine VO.nil ?_
   refine VC.le _ (Le.nilRow 2 90) ?_
   refine VC.ret ?_
   exact Exists.intro _ (And.intro (RetV.two Tryz.results46 (ResV.tmp rfl) (ResV.tmp rfl)) (⟨_, 0, [], by rw [kitE_8 h00 h1], rfl, rfl⟩))
  ·have h1 := h1b
   try simp only [qq] at h1
   have h2 := (lowK_any hro (k := k)).trans h1
   rw [Bool.and_eq_true, decide_eq_true_eq] at h2
   have hfi := low_fidx hro h2.1 h2.2
   refine VC.skip ?_
   refine VC.sr ?_
   refine VO.mw ?_
   refine VO.mw ?_
   refine VO.mw ?_
   refine VO.vv (OpV.indexAddr_E rfl Tryz.underlying93 Tryz.sizeOf110 rfl rfl rfl (by omega)) ?_
   refine VO.vv (OpV.loadK_at rfl hB OutW.no Tryz.isAgg110 Tryz.sizeOf110 rfl rfl) ?_
   refine VO.op rfl (OpE.callH0 rfl hB rfl Tryz.call113 rfl rfl (plan_kitOfO hpl (pace_rise (pacesOk (both_ok h00).1)) rfl (pace_needs (both_ok h00).1 _) (ordr_count (both_ok h00).2 h2.1)) (List.Perm.refl _) (fun _ _ => trivial) ?_)
   rintro _ _ ⟨u30, rfl, rfl⟩
   refine VO.mb ?_
   refine VO.mb ?_
   refine VO.nil ?_
   refine VC.ret ?_
   exact Exists.intro _ (And.intro (RetV.two Tryz.results46 (ResV.tmp rfl) (ResV.tmp rfl)) (⟨_, _, _, by rw [kitE_0 h00 h1], rfl, rfl⟩))
theorem spoil_W {n : Nat} {cs : List AV} {u : Value} (hcs : cs.length = n * 2) :
  SpecH Tryz.prog 43 [.v u] [.row u n 2 cs 104] (fun y hp' => ∃ cs' : List AV, hp' = [.row u n 2 cs' 104]) := by
 refine SpecH.of_VC Tryz.func43 rfl Tryz.ntmps43 (Nle rfl) fun w A hB => ?_
 refine VC.sr ?_
 refine VO.op rfl (OpE.alloc rfl hB rfl Tryz.zeroValue104 rfl ?_)
 intro g2
 refine VO.nil ?_
 refine VC.sr ?_
 refine VO.mw ?_
 refine VO.vv (OpV.len_row (i := 0) rfl Tryz.underlying99 rfl rfl) ?_
 refine VO.mw ?_
 refine VO.nil ?_
 refine VC.block ?_
 refine VC.loopK [(0, _), (2, _), (5, _)] ⟨rfl, rfl, rfl, trivial⟩ ({t : List AV × Nat // t.2 ≤ n ∧ t.1.length = n * 2}) (fun (iZ : {t : List AV × Nat // t.2 ≤ n ∧ t.1.length = n * 2}) => match iZ with | ⟨⟨z, q⟩, hq, hz⟩ => [(6, avI (q : Int))]) (fun (iZ : {t : List AV × Nat // t.2 ≤ n ∧ t.1.length = n * 2}) => match iZ with | ⟨⟨z, q⟩, hq, hz⟩ => [.row u n 2 z 104, .box g2 ⟨[avI 0, avI 0], 104, 2⟩]) (fun (iZ : {t : List AV × Nat // t.2 ≤ n ∧ t.1.length = n * 2}) => match iZ with | ⟨⟨z, q⟩, hq, hz⟩ => 0) (fun (iZ : {t : List AV × Nat // t.2 ≤ n ∧ t.1.length = n * 2}) => match iZ with | ⟨⟨z, q⟩, hq, hz⟩ => n - q) ⟨(cs, 0), Nat.zero_le _, hcs⟩ (Le.mk hB [0, 1] ⟨rfl, rfl, rfl, rfl, trivial⟩ rfl rfl (Nat.le_refl _)) ?_
 rintro ⟨⟨z, q⟩, hq, hz⟩
 show VC _ _ _ _ ⟨[(6, avI (q : Int))] ++ [(0, _), (2, _), (5, _)], [.row u n 2 z 104, .box g2 ⟨[avI 0, avI 0], 104, 2⟩], 0⟩
 simp only at hq hz
 refine VC.sr ?_
 refine VO.vv (OpV.lss rfl rfl rfl) ?_
 refine VO.nil ?_
 refine VC.seq ?_
 refine VC.cond rfl (fun aH1b => ?_) (fun aH1b => ?_)
 ·have aH1 := aH1b
  try simp only [qq] at aH1
  refine VC.asBox (i := 0) rfl (by omega) (fun g cap hu hcap hmx => ?_)
  subst hu
  have hmx2 := hmx
  unfold maxLen at hmx2
  refine VC.skip ?_
  refine VC.seq ?_
  refine VC.block ?_
  refine VC.sr ?_
  refine VO.mw ?_
  refine VO.mb ?_
  refine VO.nil ?_
  refine VC.region ?_
  refine VO.mw ?_
  refine VO.mw ?_
  refine VO.vv (OpV.loadK_own (i := 1) rfl hB Tryz.isAgg104 Tryz.sizeOf104 rfl rfl rfl (fun h => h)) ?_
  refine VO.vv (OpV.indexAddr_q rfl Tryz.underlying99 Tryz.sizeOf104 rfl rfl rfl (by omega)) ?_
  refine VO.op rfl (OpE.storeE (i := 0) rfl hB rfl Tryz.sizeOf104 rfl rfl rfl rfl rfl rfl (by show 0 + q * 2 + 2 ≤ z.length; omega) rfl trivial ?_)
  refine VO.nil ?_
  refine VC.le _ (Le.boxRow (i := 0) (n := n) (sz := 2) (cap := cap) rfl (by rw [setAll_len]; omega) hcap hmx) ?_
  refine VC.region ?_
  refine VO.vv (OpV.add rfl rfl rfl (by unfold fits; omega)) ?_
  refine VO.mw ?_
  refine VO.nil ?_
  exact Exists.intro (⟨(_, q + 1), by show q + 1 ≤ _; omega, by show (setAll z _ _).length = _; rw [setAll_len]; exact hz⟩) (And.intro (Le.mk hB [0, 1] ⟨rfl, rfl, rfl, rfl, trivial⟩ rfl rfl (Nat.le_refl _)) (by first | omega | (show _ < _; omega) | (simp only []; omega)))
 ·have aH1 := aH1b
  try simp only [qq] at aH1
  refine VC.le _ (Le.pickH [0] rfl rfl) ?_
  refine VC.exit ?_
  exact Exists.intro _ (And.intro (RetV.none Tryz.results43) (⟨z, rfl⟩))
theorem spoil_N {n : Nat} {cs : List AV} {u : Value} (hcs : cs.length = n * 2) :
  SpecH Tryz.prog 45 [.v u] [.row u n 2 cs 90] (fun y hp' => ∃ cs' : List AV, hp' = [.row u n 2 cs' 90]) := by
 refine SpecH.of_VC Tryz.func45 rfl Tryz.ntmps45 (Nle rfl) fun w A hB => ?_
 refine VC.sr ?_
 refine VO.op rfl (OpE.alloc rfl hB rfl Tryz.zeroValue90 rfl ?_)
 intro g2
 refine VO.nil ?_
 refine VC.sr ?_
 refine VO.mw ?_
 refine VO.vv (OpV.len_row (i := 0) rfl Tryz.underlying68 rfl rfl) ?_
 refine VO.mw ?_
 refine VO.nil ?_
 refine VC.block ?_
 refine VC.loopK [(0, _), (2, _), (5, _)] ⟨rfl, rfl, rfl, trivial⟩ ({t : List AV × Nat // t.2 ≤ n ∧ t.1.length = n * 2}) (fun (iZ : {t : List AV × Nat // t.2 ≤ n ∧ t.1.length = n * 2}) => match iZ with | ⟨⟨z, q⟩, hq, hz⟩ => [(6, avI (q : Int))]) (fun (iZ : {t : List AV × Nat // t.2 ≤ n ∧ t.1.length = n * 2}) => match iZ with | ⟨⟨z, q⟩, hq, hz⟩ => [.row u n 2 z 90, .box g2 ⟨[avS ⟨#[]⟩, avI 0], 90, 2⟩]) (fun (iZ : {t : List AV × Nat // t.2 ≤ n ∧ t.1.length = n * 2}) => match iZ with | ⟨⟨z, q⟩, hq, hz⟩ => 0) (fun (iZ : {t : List AV × Nat // t.2 ≤ n ∧ t.1.length = n * 2}) => match iZ with | ⟨⟨z, q⟩, hq, hz⟩ => n - q) ⟨(cs, 0), Nat.zero_le _, hcs⟩ (Le.mk hB [0, 1] ⟨rfl, rfl, rfl, rfl, trivial⟩ rfl rfl (Nat.le_refl _)) ?_
 rintro ⟨⟨z, q⟩, hq, hz⟩
 show VC _ _ _ _ ⟨[(6, avI (q : Int))] ++ [(0, _), (2, _), (5, _)], [.row u n 2 z 90, .box g2 ⟨[avS ⟨#[]⟩, avI 0], 90, 2⟩], 0⟩
 simp only at hq hz
 refine VC.sr ?_
 refine VO.vv (OpV.lss rfl rfl rfl) ?_
 refine VO.nil ?_
 refine VC.seq ?_
 refine VC.cond rfl (fun aH1b => ?_) (fun aH1b => ?_)
 ·have aH1 := aH1b
  try simp only [qq] at aH1
  refine VC.asBox (i := 0) rfl (by omega) (fun g cap hu hcap hmx => ?_)
  subst hu
  have hmx2 := hmx
  unfold maxLen at hmx2
  refine VC.skip ?_
  refine VC.seq ?_
  refine VC.block ?_
  refine VC.sr ?_
  refine VO.mw ?_
  refine VO.mb ?_
  refine VO.nil ?_
  refine VC.region ?_
  refine VO.mw ?_
  refine VO.mw ?_
  refine VO.vv (OpV.loadK_own (i := 1) rfl hB Tryz.isAgg90 Tryz.sizeOf90 rfl rfl rfl (fun h => h)) ?_
  refine VO.vv (OpV.indexAddr_q rfl Tryz.underlying68 Tryz.sizeOf90 rfl rfl rfl (by omega)) ?_
  refine VO.op rfl (OpE.storeE (i := 0) rfl hB rfl Tryz.sizeOf90 rfl rfl rfl rfl rfl rfl (by show 0 + q * 2 + 2 ≤ z.length; omega) rfl trivial ?_)
  refine VO.nil ?_
  refine VC.le _ (Le.boxRow (i := 0) (n := n) (sz := 2) (cap := cap) rfl (by rw [setAll_len]; omega) hcap hmx) ?_
  refine VC.region ?_
  refine VO.vv (OpV.add rfl rfl rfl (by unfold fits; omega)) ?_
  refine VO.mw ?_
  refine VO.nil ?_
  exact Exists.intro (⟨(_, q + 1), by show q + 1 ≤ _; omega, by show (setAll z _ _).length = _; rw [setAll_len]; exact hz⟩) (And.intro (Le.mk hB [0, 1] ⟨rfl, rfl, rfl, rfl, trivial⟩ rfl rfl (Nat.le_refl _)) (by first | omega | (show _ < _; omega) | (simp only []; omega)))
 ·have aH1 := aH1b
  try simp only [qq] at aH1
  refine VC.le _ (Le.pickH [0] rfl rfl) ?_
  refine VC.exit ?_
  exact Exists.intro _ (And.intro (RetV.none Tryz.results45) (⟨z, rfl⟩))
end
section
def eqOr (x y : OrdrS) : Bool := sEq x.key y.key && (sEq x.product y.product && (decide (x.count = y.count) && (decide (x.ready = y.ready) && (decide (x.due = y.due) && true))))
theorem eqOr_self (x : OrdrS) : eqOr x x = true := by simp [eqOr, sEq_refl]
theorem slices_Equal_or {xs ys : List OrdrS} (hl : xs.length ≤ 1000000000) (hl' : ys.length ≤ 1000000000) :
  SpecN Tryz.prog 50 [avL xs, avL ys] (fun y => y = avB (eqLs eqOr xs ys)) := by
 refine SpecN.of_VCN Tryz.func50 rfl Tryz.ntmps50 (Nle rfl) fun w A hB => ?_
 refine VC.sr ?_
 refine VO.mb ?_
 refine VO.nil ?_
 refine VC.seq ?_
 refine VC.sr ?_
 refine VO.mw ?_
 refine VO.vv (OpV.len_im rfl Tryz.underlying93 rfl) ?_
 refine VO.mw ?_
 refine VO.vv (OpV.len_im rfl Tryz.underlying93 rfl) ?_
 refine VO.vv (OpV.neq rfl rfl rfl) ?_
 refine VO.nil ?_
 refine VC.cond rfl (fun aH1b => ?_) (fun aH1b => ?_)
 ·have aH1 := aH1b
  try simp only [qq] at aH1
  refine VC.sr ?_
  refine VO.mb ?_
  refine VO.nil ?_
  refine VC.ret ?_
  exact Exists.intro _ (And.intro (RetN.one Tryz.results50 (ResN.v rfl)) (by first | rw [eqLs_len (by omega)] | rw [eqLs_at (d := default) (q := q) (by omega) (not_true_false h2b)] | rw [eqLs_all (d := default) (by omega) (fun j hj => hn j (by omega))]))
 ·have aH1 := aH1b
  try simp only [qq] at aH1
  refine VC.skip ?_
  refine VC.seq ?_
  refine VC.sr ?_
  refine VO.mw ?_
  refine VO.vv (OpV.len_im rfl Tryz.underlying93 rfl) ?_
  refine VO.mw ?_
  refine VO.nil ?_
  refine VC.block ?_
  refine VC.loopK [(0, _), (1, _), (12, _)] ⟨rfl, rfl, rfl, trivial⟩ ({q : Nat // q ≤ xs.length ∧ ∀ j, j < q → eqOr (xs.getD j default) (ys.getD j default) = true}) (fun (iZ : {q : Nat // q ≤ xs.length ∧ ∀ j, j < q → eqOr (xs.getD j default) (ys.getD j default) = true}) => match iZ with | ⟨q, hq, hn⟩ => [(13, avI (q : Int))]) (fun (iZ : {q : Nat // q ≤ xs.length ∧ ∀ j, j < q → eqOr (xs.getD j default) (ys.getD j default) = true}) => match iZ with | ⟨q, hq, hn⟩ => []) (fun (iZ : {q : Nat // q ≤ xs.length ∧ ∀ j, j < q → eqOr (xs.getD j default) (ys.getD j default) = true}) => match iZ with | ⟨q, hq, hn⟩ => 0) (fun (iZ : {q : Nat // q ≤ xs.length ∧ ∀ j, j < q → eqOr (xs.getD j default) (ys.getD j default) = true}) => match iZ with | ⟨q, hq, hn⟩ => xs.length - q) ⟨0, Nat.zero_le _, fun j hj => absurd hj (Nat.not_lt_zero j)⟩ (Le.mk hB [] ⟨rfl, rfl, rfl, rfl, trivial⟩ rfl rfl (Nat.le_refl _)) ?_
  rintro ⟨q, hq, hn⟩
  show VC _ _ _ _ ⟨[(13, avI (q : Int))] ++ [(0, _), (1, _), (12, _)], [], 0⟩
  refine VC.sr ?_
  refine VO.vv (OpV.lss rfl rfl rfl) ?_
  refine VO.nil ?_
  refine VC.seq ?_
  refine VC.cond rfl (fun aH2b => ?_) (fun aH2b => ?_)
  ·have aH2 := aH2b
   try simp only [qq] at aH2
   refine VC.skip ?_
   refine VC.seq ?_
   refine VC.block ?_
   refine VC.sr ?_
   refine VO.mw ?_
   refine VO.mb ?_
   refine VO.nil ?_
   refine VC.seq ?_
   refine VC.draw (fun _ => NoB) hB (by kernel_rfl) ?_
   refine VA.tk (i := 0) rfl (OpV.move (.inl rfl) rfl) ?_
   refine VA.tk (i := 1) rfl (OpV.move (.inl rfl) rfl) ?_
   refine VA.tk (i := 2) rfl (OpV.indexAddr_E rfl Tryz.underlying93 Tryz.sizeOf110 rfl rfl rfl (by omega)) ?_
   refine VA.tk (i := 3) rfl (OpV.loadK_at rfl hB OutW.wi0 Tryz.isAgg110 Tryz.sizeOf110 rfl rfl) ?_
   refine VA.tk (i := 4) rfl (OpV.move (.inl rfl) rfl) ?_
   refine VA.tk (i := 5) rfl (OpV.move (.inl rfl) rfl) ?_
   refine VA.tk (i := 6) rfl (OpV.indexAddr_E rfl Tryz.underlying93 Tryz.sizeOf110 rfl rfl rfl (by omega)) ?_
   refine VA.tk (i := 7) rfl (OpV.loadK_at rfl hB OutW.wi0 Tryz.isAgg110 Tryz.sizeOf110 rfl rfl) ?_
   refine VA.tk (i := 8) rfl (OpV.aneq rfl Tryz.underlying110 (by kernel_rfl) (by kernel_rfl) rfl rfl (EqFs.str Tryz.underlying9 Tryz.isAgg9 rfl (by decide) (EqFs.str Tryz.underlying9 Tryz.isAgg9 rfl (by decide) (EqFs.int Tryz.underlying3 Tryz.isAgg3 rfl (by decide) (EqFs.int Tryz.underlying3 Tryz.isAgg3 rfl (by decide) (EqFs.int Tryz.underlying3 Tryz.isAgg3 rfl (by decide) (EqFs.nil _))))))) ?_
   refine VA.done (by kernel_rfl) ?_
   refine VC.cond rfl (fun h2b => ?_) (fun h2b => ?_)
   ·have h2 := h2b
    try simp only [qq] at h2
    refine VC.sr ?_
    refine VO.mb ?_
    refine VO.nil ?_
    refine VC.ret ?_
    exact Exists.intro _ (And.intro (RetN.one Tryz.results50 (ResN.v rfl)) (by first | rw [eqLs_len (by omega)] | rw [eqLs_at (d := default) (q := q) (by omega) (not_true_false h2b)] | rw [eqLs_all (d := default) (by omega) (fun j hj => hn j (by omega))]))
   ·have h2 := h2b
    try simp only [qq] at h2
    refine VC.skip ?_
    refine VC.region ?_
    refine VO.vv (OpV.add rfl rfl rfl (by unfold fits; omega)) ?_
    refine VO.mw ?_
    refine VO.nil ?_
    exact Exists.intro (⟨q + 1, by omega, lt_succ_cases hn (not_false_true h2b)⟩) (And.intro (Le.mk hB [] ⟨rfl, rfl, rfl, rfl, trivial⟩ rfl rfl (Nat.le_refl _)) (by first | omega | (show _ < _; omega) | (simp only []; omega)))
  ·have aH2 := aH2b
   try simp only [qq] at aH2
   refine VC.exit ?_
   refine VC.sr ?_
   refine VO.mb ?_
   refine VO.nil ?_
   refine VC.ret ?_
   exact Exists.intro _ (And.intro (RetN.one Tryz.results50 (ResN.v rfl)) (by first | rw [eqLs_len (by omega)] | rw [eqLs_at (d := default) (q := q) (by omega) (not_true_false h2b)] | rw [eqLs_all (d := default) (by omega) (fun j hj => hn j (by omega))]))
end
section
def samePc (a b : PaceS) : Bool := sEq a.product b.product && (decide (a.cycle = b.cycle) && eqLs eqNd a.needs b.needs)
theorem samePc_self (a : PaceS) : samePc a a = true := by simp [samePc, sEq_refl, eqLs_self eqNd_self]
theorem rf_SamePace {a b : PaceS} (hl : a.needs.length ≤ 1000000000) (hl' : b.needs.length ≤ 1000000000) :
  SpecN Tryz.prog 49 [avPc a, avPc b] (fun y => y = avB (samePc a b)) := by
 refine SpecN.of_VCN Tryz.func49 rfl Tryz.ntmps49 (Nle rfl) fun w A hB => ?_
 refine VC.sr ?_
 refine VO.op rfl (OpE.box rfl hB rfl rfl rfl ?_)
 intro g2
 refine VO.op rfl (OpE.box rfl hB rfl rfl rfl ?_)
 intro g3
 refine VO.mb ?_
 refine VO.nil ?_
 refine VC.sr ?_
 refine VO.vv (OpV.fieldAddrO 0 rfl Tryz.underlying115 rfl rfl Tryz.sizeOf9 rfl) ?_
 refine VO.vv (OpV.load_own (i := 0) rfl hB Tryz.isAgg9 rfl rfl rfl (fun h => h)) ?_
 refine VO.vv (OpV.fieldAddrO 0 rfl Tryz.underlying115 rfl rfl Tryz.sizeOf9 rfl) ?_
 refine VO.vv (OpV.load_own (i := 1) rfl hB Tryz.isAgg9 rfl rfl rfl (fun h => h)) ?_
 refine VO.vv (OpV.seql rfl rfl rfl) ?_
 refine VO.mw ?_
 refine VO.opG rfl rfl rfl rfl (fun aK1b => ?_) (fun aK1b => ?_)
 ·replace aK1b : _ = true := aK1b
  have aK1 := aK1b
  try simp only [qq] at aK1
  refine OpE.val (W := NoB) (OpV.fieldAddrO 1 rfl Tryz.underlying115 rfl rfl Tryz.sizeOf3 rfl) rfl ?_
  refine VO.opY rfl rfl rfl rfl aK1b ?_
  refine OpE.val (W := NoB) (OpV.load_own (i := 0) rfl hB Tryz.isAgg3 rfl rfl rfl (fun h => h)) rfl ?_
  refine VO.opY rfl rfl rfl rfl aK1b ?_
  refine OpE.val (W := NoB) (OpV.fieldAddrO 1 rfl Tryz.underlying115 rfl rfl Tryz.sizeOf3 rfl) rfl ?_
  refine VO.opY rfl rfl rfl rfl aK1b ?_
  refine OpE.val (W := NoB) (OpV.load_own (i := 1) rfl hB Tryz.isAgg3 rfl rfl rfl (fun h => h)) rfl ?_
  refine VO.opY rfl rfl rfl rfl aK1b ?_
  refine OpE.val (W := NoB) (OpV.eql rfl rfl rfl) rfl ?_
  refine VO.vv (OpV.pickT rfl rfl rfl rfl aK1b) ?_
  refine VO.mw ?_
  refine VO.opG rfl rfl rfl rfl (fun aK2b => ?_) (fun aK2b => ?_)
  ·replace aK2b : _ = true := aK2b
   have aK2 := aK2b
   try simp only [qq] at aK2
   refine OpE.val (W := NoB) (OpV.fieldAddrO 2 rfl Tryz.underlying115 rfl rfl Tryz.sizeOf68 rfl) rfl ?_
   refine VO.opY rfl rfl rfl rfl aK2b ?_
   refine OpE.val (W := NoB) (OpV.load_own (i := 0) rfl hB Tryz.isAgg68 rfl rfl rfl (fun h => h)) rfl ?_
   refine VO.opY rfl rfl rfl rfl aK2b ?_
   refine OpE.val (W := NoB) (OpV.fieldAddrO 2 rfl Tryz.underlying115 rfl rfl Tryz.sizeOf68 rfl) rfl ?_
   refine VO.opY rfl rfl rfl rfl aK2b ?_
   refine OpE.val (W := NoB) (OpV.load_own (i := 1) rfl hB Tryz.isAgg68 rfl rfl rfl (fun h => h)) rfl ?_
   refine VO.opY rfl rfl rfl rfl aK2b ?_
   refine OpE.call rfl hB rfl Tryz.call36 rfl (SpecN.spec (slices_Equal_need hl hl')) ?_
   rintro _ rfl
   refine VO.vv (OpV.pickT rfl rfl rfl rfl aK2b) ?_
   refine VO.mb ?_
   refine VO.nil ?_
   refine VC.ret ?_
   exact Exists.intro _ (And.intro (RetN.one Tryz.results49 (ResN.v rfl)) (by unfold samePc; simp_all))
  ·replace aK2b : _ = false := aK2b
   have aK2 := aK2b
   try simp only [qq] at aK2
   refine VO.opX rfl rfl rfl rfl aK2b ?_
   refine VO.opX rfl rfl rfl rfl aK2b ?_
   refine VO.opX rfl rfl rfl rfl aK2b ?_
   refine VO.opX rfl rfl rfl rfl aK2b ?_
   refine VO.vv (OpV.pickF rfl rfl rfl rfl aK2b) ?_
   refine VO.mb ?_
   refine VO.nil ?_
   refine VC.ret ?_
   exact Exists.intro _ (And.intro (RetN.one Tryz.results49 (ResN.v rfl)) (by unfold samePc; simp_all))
 ·replace aK1b : _ = false := aK1b
  have aK1 := aK1b
  try simp only [qq] at aK1
  refine VO.opX rfl rfl rfl rfl aK1b ?_
  refine VO.opX rfl rfl rfl rfl aK1b ?_
  refine VO.opX rfl rfl rfl rfl aK1b ?_
  refine VO.opX rfl rfl rfl rfl aK1b ?_
  refine VO.vv (OpV.pickF rfl rfl rfl rfl aK1b) ?_
  refine VO.mw ?_
  refine VO.opX rfl rfl rfl rfl rfl ?_
  refine VO.opX rfl rfl rfl rfl rfl ?_
  refine VO.opX rfl rfl rfl rfl rfl ?_
  refine VO.opX rfl rfl rfl rfl rfl ?_
  refine VO.opX rfl rfl rfl rfl rfl ?_
  refine VO.vv (OpV.pickF rfl rfl rfl rfl rfl) ?_
  refine VO.mb ?_
  refine VO.nil ?_
  refine VC.ret ?_
  exact Exists.intro _ (And.intro (RetN.one Tryz.results49 (ResN.v rfl)) (by unfold samePc; simp_all))
theorem slices_EqualFunc_pc {xs ys : List PaceS} {F : FuncId} {cs : List AV} {e : PaceS → PaceS → Bool} (hl : xs.length ≤ 1000000000) (hl' : ys.length ≤ 1000000000) (hcall : ∀ us w, (callFunc F us).run Tryz.prog w = .ok (.enter F us) w) (hF : ∀ i, i < xs.length → Spec Tryz.prog F ([avT (xs.getD i default), avT (ys.getD i default)] ++ cs) (fun y => y = avB (e (xs.getD i default) (ys.getD i default)))) :
  SpecN Tryz.prog 48 [avL xs, avL ys, .fn F cs] (fun y => y = avB (eqLs e xs ys)) := by
 refine SpecN.of_VCN Tryz.func48 rfl Tryz.ntmps48 (Nle rfl) fun w A hB => ?_
 refine VC.sr ?_
 refine VO.mb ?_
 refine VO.nil ?_
 refine VC.seq ?_
 refine VC.sr ?_
 refine VO.mw ?_
 refine VO.vv (OpV.len_im rfl Tryz.underlying92 rfl) ?_
 refine VO.mw ?_
 refine VO.vv (OpV.len_im rfl Tryz.underlying92 rfl) ?_
 refine VO.vv (OpV.neq rfl rfl rfl) ?_
 refine VO.nil ?_
 refine VC.cond rfl (fun aH1b => ?_) (fun aH1b => ?_)
 ·have aH1 := aH1b
  try simp only [qq] at aH1
  refine VC.sr ?_
  refine VO.mb ?_
  refine VO.nil ?_
  refine VC.ret ?_
  exact Exists.intro _ (And.intro (RetN.one Tryz.results48 (ResN.v rfl)) (by first | rw [eqLs_len (by omega)] | rw [eqLs_at (d := default) (q := q) (by omega) (not_true_false h2b)] | rw [eqLs_all (d := default) (by omega) (fun j hj => hn j (by omega))]))
 ·have aH1 := aH1b
  try simp only [qq] at aH1
  refine VC.skip ?_
  refine VC.seq ?_
  refine VC.sr ?_
  refine VO.mw ?_
  refine VO.vv (OpV.len_im rfl Tryz.underlying92 rfl) ?_
  refine VO.mw ?_
  refine VO.nil ?_
  refine VC.block ?_
  refine VC.loopK [(1, _), (2, _), (15, _), (16, _)] ⟨rfl, rfl, rfl, rfl, trivial⟩ ({q : Nat // q ≤ xs.length ∧ ∀ j, j < q → e (xs.getD j default) (ys.getD j default) = true}) (fun (iZ : {q : Nat // q ≤ xs.length ∧ ∀ j, j < q → e (xs.getD j default) (ys.getD j default) = true}) => match iZ with | ⟨q, hq, hn⟩ => [(17, avI (q : Int))]) (fun (iZ : {q : Nat // q ≤ xs.length ∧ ∀ j, j < q → e (xs.getD j default) (ys.getD j default) = true}) => match iZ with | ⟨q, hq, hn⟩ => []) (fun (iZ : {q : Nat // q ≤ xs.length ∧ ∀ j, j < q → e (xs.getD j default) (ys.getD j default) = true}) => match iZ with | ⟨q, hq, hn⟩ => 0) (fun (iZ : {q : Nat // q ≤ xs.length ∧ ∀ j, j < q → e (xs.getD j default) (ys.getD j default) = true}) => match iZ with | ⟨q, hq, hn⟩ => xs.length - q) ⟨0, Nat.zero_le _, fun j hj => absurd hj (Nat.not_lt_zero j)⟩ (Le.mk hB [] ⟨rfl, rfl, rfl, rfl, rfl, trivial⟩ rfl rfl (Nat.le_refl _)) ?_
  rintro ⟨q, hq, hn⟩
  show VC _ _ _ _ ⟨[(17, avI (q : Int))] ++ [(1, _), (2, _), (15, _), (16, _)], [], 0⟩
  refine VC.sr ?_
  refine VO.vv (OpV.lss rfl rfl rfl) ?_
  refine VO.nil ?_
  refine VC.seq ?_
  refine VC.cond rfl (fun aH2b => ?_) (fun aH2b => ?_)
  ·have aH2 := aH2b
   try simp only [qq] at aH2
   refine VC.skip ?_
   refine VC.seq ?_
   refine VC.block ?_
   refine VC.sr ?_
   refine VO.mw ?_
   refine VO.vv (OpV.indexAddr_E rfl Tryz.underlying92 Tryz.sizeOf115 rfl rfl rfl (by omega)) ?_
   refine VO.vv (OpV.loadK_at rfl hB OutW.no Tryz.isAgg115 Tryz.sizeOf115 rfl rfl) ?_
   refine VO.op rfl (OpE.alloc rfl hB rfl Tryz.zeroValue115 rfl ?_)
   intro g8
   refine VO.mb ?_
   refine VO.op rfl (OpE.store (i := 0) rfl hB rfl Tryz.sizeOf115 rfl rfl rfl rfl rfl rfl (Nle rfl) trivial ?_)
   refine VO.nil ?_
   refine VC.sr ?_
   refine VO.mw ?_
   refine VO.mw ?_
   refine VO.vv (OpV.indexAddr_E rfl Tryz.underlying92 Tryz.sizeOf115 rfl rfl rfl (by omega)) ?_
   refine VO.vv (OpV.loadK_at rfl hB OutW.no Tryz.isAgg115 Tryz.sizeOf115 rfl rfl) ?_
   refine VO.op rfl (OpE.alloc rfl hB rfl Tryz.zeroValue115 rfl ?_)
   intro g9
   refine VO.op rfl (OpE.store (i := 1) rfl hB rfl Tryz.sizeOf115 rfl rfl rfl rfl rfl rfl (Nle rfl) trivial ?_)
   refine VO.nil ?_
   refine VC.sr ?_
   refine VO.mw ?_
   refine VO.vv (OpV.loadK_own (i := 0) rfl hB Tryz.isAgg115 Tryz.sizeOf115 rfl rfl rfl (fun h => h)) ?_
   refine VO.vv (OpV.loadK_own (i := 1) rfl hB Tryz.isAgg115 Tryz.sizeOf115 rfl rfl rfl (fun h => h)) ?_
   refine VO.op rfl (OpE.callF rfl hB rfl hcall rfl rfl (hF q (by omega)) ?_)
   rintro _ rfl
   refine VO.vv (OpV.not rfl rfl) ?_
   refine VO.nil ?_
   refine VC.cond rfl (fun h2b => ?_) (fun h2b => ?_)
   ·have h2 := h2b
    try simp only [qq] at h2
    refine VC.sr ?_
    refine VO.mb ?_
    refine VO.nil ?_
    refine VC.ret ?_
    exact Exists.intro _ (And.intro (RetN.one Tryz.results48 (ResN.v rfl)) (by first | rw [eqLs_len (by omega)] | rw [eqLs_at (d := default) (q := q) (by omega) (not_true_false h2b)] | rw [eqLs_all (d := default) (by omega) (fun j hj => hn j (by omega))]))
   ·have h2 := h2b
    try simp only [qq] at h2
    refine VC.skip ?_
    refine VC.region ?_
    refine VO.vv (OpV.add rfl rfl rfl (by unfold fits; omega)) ?_
    refine VO.mw ?_
    refine VO.nil ?_
    exact Exists.intro (⟨q + 1, by omega, lt_succ_cases hn (not_false_true h2b)⟩) (And.intro (Le.mk hB [] ⟨rfl, rfl, rfl, rfl, rfl, trivial⟩ rfl rfl (Nat.le_refl _)) (by first | omega | (show _ < _; omega) | (simp only []; omega)))
  ·have aH2 := aH2b
   try simp only [qq] at aH2
   refine VC.exit ?_
   refine VC.sr ?_
   refine VO.mb ?_
   refine VO.nil ?_
   refine VC.ret ?_
   exact Exists.intro _ (And.intro (RetN.one Tryz.results48 (ResN.v rfl)) (by first | rw [eqLs_len (by omega)] | rw [eqLs_at (d := default) (q := q) (by omega) (not_true_false h2b)] | rw [eqLs_all (d := default) (by omega) (fun j hj => hn j (by omega))]))
end
section
theorem stock_sm {l : List NeedS} (h : NsOk 4 l) : SmN l := ⟨by have := h.1; omega, fun i => by have := partK_size (h.getD i); omega⟩
theorem kits_part {p : List PaceS} {o : List OrdrS} (hp : ∀ x ∈ p, PcOk 5 x) : ∀ y ∈ kitsL p o, y.key ∈ partK := fun y hy => by
 obtain ⟨x, _, hy⟩ := List.mem_flatMap.1 hy
 obtain ⟨n, hn, rfl⟩ := List.mem_map.1 hy
 have hx : PcOk 5 (paceO p x.product) := by
  unfold paceO
  cases hf : p.find? (fun z => sEq z.product x.product) with
  | none => exact ⟨by decide, Nat.zero_le _, fun y hy => by cases hy⟩
  | some z => exact hp z (List.mem_of_find?_eq_some hf)
 exact hx.2.2 n hn
end
section
theorem plan_orders1_step {τ : Type} {K : τ → List Ent → Prop} {step : τ → List Int → τ} {n : Nat} {F : FuncId} {caps : Array Value} {g0 g1 g2 g3 gu g4 d c : Nat} {o : List Int} {u : Value} {h : List Ent} {a : τ} (hn : n ≤ 1000) (hcd : ∀ us w, (callFunc F us).run Tryz.prog w = .ok (.enter F us) w) (hdo : DoesP n K step Tryz.prog F caps 3) (ih : ∀ d', d = d' + 1 → ∀ (o : List Int) (u : Value) (h : List Ent) (a : τ) (c : Nat), Ord n o → o.length = c → c + d' = n → K a h → SpecH Tryz.prog 190 [pt g0, pt g1, pt g2, pt g3, pt g4] (ownO n F 190 caps 22 3 74 294 4 1 g0 g1 g2 g3 gu g4 c o u h) (fun y hp' => ∃ u' h', K (ext n step d' o a) h' ∧ hp' = ownO n F 190 caps 22 3 74 294 4 1 g0 g1 g2 g3 gu g4 c o u' h')) (ho : Ord n o) (hoc : o.length = c) (hcd' : c + d = n) (hk : K a h) :
  SpecH Tryz.prog 190 [pt g0, pt g1, pt g2, pt g3, pt g4] (ownO n F 190 caps 22 3 74 294 4 1 g0 g1 g2 g3 gu g4 c o u h) (fun y hp' => ∃ u' h', K (ext n step d o a) h' ∧ hp' = ownO n F 190 caps 22 3 74 294 4 1 g0 g1 g2 g3 gu g4 c o u' h') := by
 refine SpecH.of_VC Tryz.func190 rfl Tryz.ntmps190 (Nle rfl) fun w A hB => ?_
 refine VC.seq ?_
 refine VC.sr ?_
 refine VO.vv (OpV.load_own (i := 4) rfl hB Tryz.isAgg22 rfl rfl rfl (fun h => h)) ?_
 refine VO.vv (OpV.len_row (i := 3) rfl Tryz.underlying22 rfl rfl) ?_
 refine VO.vv (OpV.load_own (i := 6) rfl hB Tryz.isAgg3 rfl rfl rfl (fun h => h)) ?_
 refine VO.vv (OpV.eql rfl rfl rfl) ?_
 refine VO.nil ?_
 refine VC.cond rfl (fun h0b => ?_) (fun h0b => ?_)
 ·have h0 := h0b
  try simp only [qq] at h0
  obtain rfl : d = 0 := by omega
  refine VC.sr ?_
  refine VO.vv (OpV.load_own (i := 5) rfl hB Tryz.isAgg74 rfl rfl rfl (fun h => h)) ?_
  refine VO.vv (OpV.load_own (i := 4) rfl hB Tryz.isAgg22 rfl rfl rfl (fun h => h)) ?_
  refine VO.op rfl (OpE.callH rfl hB rfl hcd rfl rfl (hdo o c a h u ho hoc (by omega) hk) (perm_do (A := [_, _, _]) (R := [_, _, _])) (fun _ _ => trivial) ?_)
  rintro _ _ ⟨h', hk', rfl⟩
  refine VO.le _ (Le.perm (perm_od (A := [_, _, _]) (R := [_, _, _]))) ?_
  refine VO.nil ?_
  refine VC.ret ?_
  exact Exists.intro _ (And.intro (RetV.none Tryz.results190) (⟨u, h', hk', rfl⟩))
 ·have h0 := h0b
  try simp only [qq] at h0
  obtain ⟨d', rfl⟩ : ∃ d', d = d' + 1 := ⟨d - 1, by omega⟩
  refine VC.skip ?_
  refine VC.sr ?_
  refine VO.vv (OpV.load_own (i := 6) rfl hB Tryz.isAgg3 rfl rfl rfl (fun h => h)) ?_
  refine VO.mw ?_
  refine VO.nil ?_
  refine VC.block ?_
  refine VC.loopK [(0, _), (3, _), (4, _), (13, _)] ⟨rfl, rfl, rfl, rfl, trivial⟩ ({t : (Value × List Ent) × Nat // t.2 ≤ n ∧ K (extQ n step d' o a t.2) t.1.2}) (fun (iZ : {t : (Value × List Ent) × Nat // t.2 ≤ n ∧ K (extQ n step d' o a t.2) t.1.2}) => match iZ with | ⟨⟨⟨uu, hh⟩, q⟩, hq, hkk⟩ => [(14, avI (q : Int))]) (fun (iZ : {t : (Value × List Ent) × Nat // t.2 ≤ n ∧ K (extQ n step d' o a t.2) t.1.2}) => match iZ with | ⟨⟨⟨uu, hh⟩, q⟩, hq, hkk⟩ => ownO n F 190 caps 22 3 74 294 4 1 g0 g1 g2 g3 gu g4 c o uu hh) (fun (iZ : {t : (Value × List Ent) × Nat // t.2 ≤ n ∧ K (extQ n step d' o a t.2) t.1.2}) => match iZ with | ⟨⟨⟨uu, hh⟩, q⟩, hq, hkk⟩ => 0) (fun (iZ : {t : (Value × List Ent) × Nat // t.2 ≤ n ∧ K (extQ n step d' o a t.2) t.1.2}) => match iZ with | ⟨⟨⟨uu, hh⟩, q⟩, hq, hkk⟩ => n - q) ⟨((u, h), 0), Nat.zero_le _, hk⟩ (Le.mkP hB ⟨rfl, rfl, rfl, rfl, rfl, trivial⟩ (List.Sublist.refl _) (List.Perm.refl _) (Nat.le_refl _)) ?_
  rintro ⟨⟨⟨uu, hh⟩, q⟩, hq, hkk⟩
  show VC _ _ _ _ ⟨[(14, avI (q : Int))] ++ [(0, _), (3, _), (4, _), (13, _)], ownO n F 190 caps 22 3 74 294 4 1 g0 g1 g2 g3 gu g4 c o uu hh, 0⟩
  simp only at hq hkk
  refine VC.sr ?_
  refine VO.vv (OpV.lss rfl rfl rfl) ?_
  refine VO.nil ?_
  refine VC.seq ?_
  refine VC.cond rfl (fun aH1b => ?_) (fun aH1b => ?_)
  ·have aH1 := aH1b
   try simp only [qq] at aH1
   refine VC.skip ?_
   refine VC.seq ?_
   refine VC.block ?_
   refine VC.sr ?_
   refine VO.mw ?_
   refine VO.mb ?_
   refine VO.nil ?_
   refine VC.sr ?_
   refine VO.vv (OpV.load_own (i := 1) rfl hB Tryz.isAgg294 rfl rfl rfl (fun h => h)) ?_
   refine VO.mw ?_
   refine VO.vv (OpV.indexAddr_o rfl Tryz.underlying294 Tryz.sizeOf4 rfl rfl rfl (by omega)) ?_
   refine VO.vv (OpV.load_own (i := 2) rfl hB Tryz.isAgg4 rfl rfl (usedL_get (q := q) (by omega)) (fun h => h)) ?_
   refine VO.vv (OpV.not rfl rfl) ?_
   refine VO.nil ?_
   refine VC.cond rfl (fun h2b => ?_) (fun h2b => ?_)
   ·have h2 := h2b
    try simp only [qq] at h2
    have h2' : (q : Int) ∉ o := by simpa using h2b
    refine VC.sr ?_
    refine VO.vv (OpV.load_own (i := 1) rfl hB Tryz.isAgg294 rfl rfl rfl (fun h => h)) ?_
    refine VO.mw ?_
    refine VO.vv (OpV.indexAddr_o rfl Tryz.underlying294 Tryz.sizeOf4 rfl rfl rfl (by omega)) ?_
    refine VO.op rfl (OpE.store1 (i := 2) rfl hB rfl Tryz.sizeOf4 rfl rfl rfl rfl rfl rfl (by rw [usedL_len]; omega) (usedL_set (by omega)) trivial ?_)
    refine VO.nil ?_
    refine VC.sr ?_
    refine VO.vv (OpV.load_own (i := 4) rfl hB Tryz.isAgg22 rfl rfl rfl (fun h => h)) ?_
    refine VO.mw ?_
    refine VO.op rfl (bI rfl hB rfl (by decide) rfl rfl ?_)
    refine VO.op rfl (OpE.append1S (i := 3) rfl hB rfl Tryz.underlying22 (infoOf Tryz.t3 1 (by kernel_rfl) rfl rfl) rfl (by decide) (by decide) rfl rfl rfl rfl (intsL_snoc _ _) (by omega) (fun _ _ => trivial) ?_)
    intro b2 c2
    refine VO.op rfl (OpE.store (i := 4) rfl hB rfl Tryz.sizeOf22 rfl rfl rfl rfl rfl rfl (Nle rfl) trivial ?_)
    refine VO.nil ?_
    refine VC.sr ?_
    refine VO.vv (OpV.load_own (i := 0) rfl hB Tryz.isAgg1 rfl rfl rfl (fun h => h)) ?_
    refine VO.op rfl (OpE.callH0 rfl hB rfl Tryz.call190 rfl rfl (ih d' rfl (o ++ [(q : Int)]) (.slice b2 (c + 1) c2) hh _ (c + 1) (ho.snoc (by omega) h2') (by rw [List.length_append, hoc]; rfl) (by omega) hkk) (List.Perm.refl _) (fun _ _ => trivial) ?_)
    rintro _ _ ⟨u3, h3, hk3, rfl⟩
    refine VO.nil ?_
    refine VC.seq ?_
    refine VC.asBox (i := 3) rfl (Nat.succ_pos _) (fun g cap hu hcap hmx => ?_)
    subst hu
    refine VC.region ?_
    refine VO.vv (OpV.load_own (i := 4) rfl hB Tryz.isAgg22 rfl rfl rfl (fun h => h)) ?_
    refine VO.vv (OpV.load_own (i := 4) rfl hB Tryz.isAgg22 rfl rfl rfl (fun h => h)) ?_
    refine VO.vv (OpV.len_v rfl Tryz.underlying22 rfl) ?_
    refine VO.vv (OpV.sub rfl rfl rfl (by unfold fits; omega)) ?_
    refine VO.vv (OpV.slice_own (h := c) rfl Tryz.underlying22 Tryz.sizeOf3 rfl rfl ⟨_, _, rfl, by omega⟩ (by omega) (by omega) (by omega)) ?_
    refine VO.op rfl (OpE.store (i := 4) rfl hB rfl Tryz.sizeOf22 rfl rfl rfl rfl rfl rfl (Nle rfl) trivial ?_)
    refine VO.nil ?_
    refine VC.le _ ((Le.cutBoxE (i := 3) c rfl (intsL_cut hoc)).trans (Le.boxRow (i := 3) (n := c) (sz := 1) (cap := cap) rfl (by rw [intsL_len, hoc, Nat.mul_one]) (by omega) hmx)) ?_
    refine VC.region ?_
    refine VO.vv (OpV.load_own (i := 1) rfl hB Tryz.isAgg294 rfl rfl rfl (fun h => h)) ?_
    refine VO.mw ?_
    refine VO.vv (OpV.indexAddr_o rfl Tryz.underlying294 Tryz.sizeOf4 rfl rfl rfl (by omega)) ?_
    refine VO.op rfl (OpE.store1 (i := 2) rfl hB rfl Tryz.sizeOf4 rfl rfl rfl rfl rfl rfl (by rw [usedL_len]; omega) (usedL_unset (by omega) h2') trivial ?_)
    refine VO.nil ?_
    refine VC.region ?_
    refine VO.vv (OpV.add rfl rfl rfl (by unfold fits; omega)) ?_
    refine VO.mw ?_
    refine VO.nil ?_
    exact Exists.intro (⟨((.slice (some ⟨g, 0, none⟩) c cap, h3), q + 1), by show q + 1 ≤ n; omega, by rw [extQ_out h2']; exact hk3⟩) (And.intro (Le.mkP hB ⟨rfl, rfl, rfl, rfl, rfl, trivial⟩ (List.Sublist.refl _) (List.Perm.refl _) (Nat.le_refl _)) (by first | omega | (show _ < _; omega) | (simp only []; omega)))
   ·have h2 := h2b
    try simp only [qq] at h2
    have h2' : (q : Int) ∈ o := by simpa using h2b
    refine VC.skip ?_
    refine VC.region ?_
    refine VO.vv (OpV.add rfl rfl rfl (by unfold fits; omega)) ?_
    refine VO.mw ?_
    refine VO.nil ?_
    exact Exists.intro (⟨((uu, hh), q + 1), by show q + 1 ≤ n; omega, by rw [extQ_in h2']; exact hkk⟩) (And.intro (Le.mkP hB ⟨rfl, rfl, rfl, rfl, rfl, trivial⟩ (List.Sublist.refl _) (List.Perm.refl _) (Nat.le_refl _)) (by first | omega | (show _ < _; omega) | (simp only []; omega)))
  ·have aH1 := aH1b
   try simp only [qq] at aH1
   obtain rfl : q = n := by omega
   refine VC.exit ?_
   exact Exists.intro _ (And.intro (RetV.none Tryz.results190) (⟨uu, hh, hkk, rfl⟩))
theorem plan_orders1 {τ : Type} {K : τ → List Ent → Prop} {step : τ → List Int → τ} {n : Nat} {F : FuncId} {caps : Array Value} {g0 g1 g2 g3 gu g4 : Nat} (hn : n ≤ 1000) (hcd : ∀ us w, (callFunc F us).run Tryz.prog w = .ok (.enter F us) w) (hdo : DoesP n K step Tryz.prog F caps 3) :
  ∀ (d : Nat) (o : List Int) (u : Value) (h : List Ent) (a : τ) (c : Nat), Ord n o → o.length = c → c + d = n → K a h → SpecH Tryz.prog 190 [pt g0, pt g1, pt g2, pt g3, pt g4] (ownO n F 190 caps 22 3 74 294 4 1 g0 g1 g2 g3 gu g4 c o u h) (fun y hp' => ∃ u' h', K (ext n step d o a) h' ∧ hp' = ownO n F 190 caps 22 3 74 294 4 1 g0 g1 g2 g3 gu g4 c o u' h')
 | 0, o, u, h, a, c, ho, hoc, hc, hk => plan_orders1_step hn hcd hdo (fun d' e => by omega) ho hoc hc hk
 | d + 1, o, u, h, a, c, ho, hoc, hc, hk => plan_orders1_step hn hcd hdo (fun d' e => by obtain rfl : d = d' := (by omega); exact plan_orders1 hn hcd hdo d) ho hoc hc hk
theorem plan_orders {τ : Type} {K : τ → List Ent → Prop} {step : τ → List Int → τ} {n : Nat} {F : FuncId} {caps : Array Value} {h : List Ent} {a : τ} (hn : n ≤ 1000) (hcd : ∀ us w, (callFunc F us).run Tryz.prog w = .ok (.enter F us) w) (hdo : DoesP n K step Tryz.prog F caps 3) (hk : K a h) :
  SpecH Tryz.prog 106 [avI (n : Int), .v (.func (.func F) #[] caps)] h (fun y hp' => ∃ h', K (ext n step n [] a) h' ∧ hp' = h') := by
 refine SpecH.of_VC Tryz.func106 rfl Tryz.ntmps106 (Nle rfl) fun w A hB => ?_
 refine VC.sr ?_
 refine VO.op rfl (OpE.box rfl hB rfl rfl rfl ?_)
 intro g2
 refine VO.le _ (Le.front rfl) ?_
 refine VO.op rfl (OpE.box rfl hB rfl rfl rfl ?_)
 intro g3
 refine VO.le _ (Le.front rfl) ?_
 refine VO.nil ?_
 refine VC.sr ?_
 refine VO.op rfl (OpE.alloc rfl hB rfl Tryz.zeroValue22 rfl ?_)
 intro g4
 refine VO.le _ (Le.front rfl) ?_
 refine VO.le _ (Le.nilRow 1 3) ?_
 refine VO.le _ (Le.front rfl) ?_
 refine VO.nil ?_
 refine VC.sr ?_
 refine VO.vv (OpV.load_own (i := 3) rfl hB Tryz.isAgg3 rfl rfl rfl (fun h => h)) ?_
 refine VO.op rfl (OpE.make rfl hB rfl Tryz.underlying294 (infoOf Tryz.t4 1 (by kernel_rfl) rfl rfl) (by decide) rfl rfl (n := n) rfl rfl (by omega) (usedL_make rfl) ?_)
 intro g8
 rw [usedL_len]
 refine VO.le _ (Le.front rfl) ?_
 refine VO.op rfl (OpE.alloc rfl hB rfl Tryz.zeroValue294 rfl ?_)
 intro g5
 refine VO.le _ (Le.front rfl) ?_
 refine VO.op rfl (OpE.store (i := 0) rfl hB rfl Tryz.sizeOf294 rfl rfl rfl rfl rfl rfl (Nle rfl) trivial ?_)
 refine VO.nil ?_
 refine VC.sr ?_
 refine VO.op rfl (OpE.alloc rfl hB rfl Tryz.zeroValue1 rfl ?_)
 intro g6
 refine VO.le _ (Le.front rfl) ?_
 refine VO.nil ?_
 refine VC.sr ?_
 refine VO.vv (OpV.makeFunc5 rfl rfl rfl rfl rfl rfl) ?_
 refine VO.op rfl (OpE.store (i := 0) rfl hB rfl Tryz.sizeOf1 rfl rfl rfl rfl rfl rfl (Nle rfl) trivial ?_)
 refine VO.nil ?_
 refine VC.region ?_
 refine VO.vv (OpV.load_own (i := 0) rfl hB Tryz.isAgg1 rfl rfl rfl (fun h => h)) ?_
 refine VO.op rfl (OpE.callH0 rfl hB rfl Tryz.call190 rfl rfl (plan_orders1 hn hcd hdo n [] (.slice none 0 0) h a 0 (Ord.nil n) rfl (Nat.zero_add n) hk) (List.Perm.refl _) (fun _ _ => trivial) ?_)
 rintro _ _ ⟨u3, h3, hk3, rfl⟩
 refine VO.le _ (Le.drop 7) ?_
 refine VO.nil ?_
 exact Exists.intro _ (And.intro (RetV.none Tryz.results106) (⟨h3, hk3, rfl⟩))
end
section
abbrev bestOS (p : List PaceS) (o : List OrdrS) (start each : Int) (Ts Ti Tb Tr To : TypeId) (gs gt gf gl gb : Nat) (ub : Value) (a : SchS) : List Ent :=
 [.box gs ⟨[.at_ 3 (schC p o each)], Ts, 1⟩, .box gt ⟨[avI start], Ti, 1⟩, .box gf ⟨[avB a.first], Tb, 1⟩, .box gl ⟨[avI a.late, avI a.many, avI a.en], Tr, 3⟩, .box gb ⟨[.v ub], To, 1⟩, .row ub a.best.length 1 (intsL a.best) Ti]
set_option maxHeartbeats 4000000 in
theorem plan_Best1 {p : List PaceS} {o : List OrdrS} {l : List Int} {start each : Int} {c : Nat} {u ub : Value} {a : SchS} {gs gt gf gl gb : Nat} (hk : SchOk p o l start each) (hoc : l.length = c) :
  SpecH Tryz.prog 107 [.v u, pt gs, pt gt, pt gf, pt gl, pt gb] (.row u c 1 (intsL l) 3 :: bestOS p o start each 196 3 4 199 22 gs gt gf gl gb ub a) (fun y hp' => ∃ ub', hp' = .row u c 1 (intsL l) 3 :: bestOS p o start each 196 3 4 199 22 gs gt gf gl gb ub' (stepS p o start each a l)) := by
 have hl := hk.len
 have ho := hk.ook.len
 refine SpecH.of_VC Tryz.func107 rfl Tryz.ntmps107 (Nle rfl) fun w A hB => ?_
 refine VC.sr ?_
 refine VO.vv (OpV.load_own (i := 1) rfl hB Tryz.isAgg196 rfl rfl rfl (fun h => h)) ?_
 refine VO.mw ?_
 refine VO.vv (OpV.load_own (i := 2) rfl hB Tryz.isAgg3 rfl rfl rfl (fun h => h)) ?_
 refine VO.op rfl (OpE.callL rfl hB rfl Tryz.call108 (plan_result hk) (ArgsP.cons (ArgP.ev rfl) (ArgsP.cons (ArgP.rowI (i := 0) rfl rfl hoc.symm) (ArgsP.cons (ArgP.ev rfl) (ArgsP.nil)))) ?_)
 rintro _ rfl
 refine VO.op rfl (OpE.alloc rfl hB rfl Tryz.zeroValue199 rfl ?_)
 intro g7
 refine VO.op rfl (OpE.store (i := 7) rfl hB rfl Tryz.sizeOf199 rfl rfl rfl rfl rfl rfl (Nle rfl) trivial ?_)
 refine VO.nil ?_
 refine VC.seq ?_
 refine VC.draw (fun _ => NoB) hB (by kernel_rfl) ?_
 refine VA.tk (i := 0) rfl (OpV.load_own (i := 3) rfl hB Tryz.isAgg4 rfl rfl rfl Wi.not0) ?_
 refine VA.tk (i := 1) rfl (OpV.move (.inl rfl) rfl) ?_
 refine VA.split (t := 13) rfl (fun aK1b => ?_) (fun aK1b => ?_)
 ·have aK1 := aK1b
  try simp only [qq] at aK1
  refine VA.takeX (i := 2) rfl (by kernel_rfl) (by kernel_rfl) (by kernel_rfl) rfl rfl rfl rfl aK1b ?_
  refine VA.takeX (i := 3) rfl (by kernel_rfl) (by kernel_rfl) (by kernel_rfl) rfl rfl rfl rfl aK1b ?_
  refine VA.takeX (i := 4) rfl (by kernel_rfl) (by kernel_rfl) (by kernel_rfl) rfl rfl rfl rfl aK1b ?_
  refine VA.takeX (i := 5) rfl (by kernel_rfl) (by kernel_rfl) (by kernel_rfl) rfl rfl rfl rfl aK1b ?_
  refine VA.takeX (i := 6) rfl (by kernel_rfl) (by kernel_rfl) (by kernel_rfl) rfl rfl rfl rfl aK1b ?_
  refine VA.takeX (i := 7) rfl (by kernel_rfl) (by kernel_rfl) (by kernel_rfl) rfl rfl rfl rfl aK1b ?_
  refine VA.takeX (i := 8) rfl (by kernel_rfl) (by kernel_rfl) (by kernel_rfl) rfl rfl rfl rfl aK1b ?_
  refine VA.takeX (i := 9) rfl (by kernel_rfl) (by kernel_rfl) (by kernel_rfl) rfl rfl rfl rfl aK1b ?_
  refine VA.takeX (i := 10) rfl (by kernel_rfl) (by kernel_rfl) (by kernel_rfl) rfl rfl rfl rfl aK1b ?_
  refine VA.takeX (i := 11) rfl (by kernel_rfl) (by kernel_rfl) (by kernel_rfl) rfl rfl rfl rfl aK1b ?_
  refine VA.takeX (i := 12) rfl (by kernel_rfl) (by kernel_rfl) (by kernel_rfl) rfl rfl rfl rfl aK1b ?_
  refine VA.takeX (i := 13) rfl (by kernel_rfl) (by kernel_rfl) (by kernel_rfl) rfl rfl rfl rfl aK1b ?_
  refine VA.takeX (i := 14) rfl (by kernel_rfl) (by kernel_rfl) (by kernel_rfl) rfl rfl rfl rfl aK1b ?_
  refine VA.tk (i := 15) rfl (OpV.pickT rfl rfl rfl rfl aK1b) ?_
  refine VA.done (by kernel_rfl) ?_
  refine VC.condT rfl rfl ?_
  refine VC.hap (fun hap => ?_)
  have n7f := apart_ne hap (i := 7) (j := 3) rfl rfl (by decide)
  have n7l := apart_ne hap (i := 7) (j := 4) rfl rfl (by decide)
  have n7b := apart_ne hap (i := 7) (j := 5) rfl rfl (by decide)
  refine VC.draw (fun j b => j ∈ [3, 4, 5] ∧ (b = gb ∨ b = gl ∨ b = gf)) hB (by kernel_rfl) ?_
  refine VA.tk (i := 0) rfl (OpV.move (.inl rfl) rfl) ?_
  refine VA.tk (i := 2) rfl (OpV.loadK_own (i := 7) rfl hB Tryz.isAgg199 Tryz.sizeOf199 rfl rfl rfl (fun ⟨_, _, _, h⟩ => h.elim n7b (fun h => h.elim n7l n7f))) ?_
  refine VA.all (rs := [1]) (by kernel_rfl) (by decide) ?_
  refine ⟨⟨_, rfl, .inl rfl, ?_⟩, trivial⟩
  refine OpE.callR rfl hB rfl Tryz.call26 (slices_Clone_R (by omega)) (ArgsP.cons (ArgP.rowI (i := 0) rfl rfl hoc.symm) (ArgsP.nil)) ?_
  intro u29
  refine VA.le _ (Le.pickH [0, 1, 2, 3, 4, 5, 8] rfl rfl) ?_
  refine VA.rowIs (i := 6) rfl (fun b29 c29 hu29 => ?_)
  subst hu29
  refine VA.all (rs := [3]) (by kernel_rfl) (by decide) ?_
  refine ⟨⟨_, rfl, .inl rfl, ?_⟩, trivial⟩
  refine OpE.store (i := 5) rfl hB rfl Tryz.sizeOf22 rfl rfl rfl rfl rfl rfl (Nle rfl) (⟨by decide, by first | exact .inl rfl | exact .inr (.inl rfl) | exact .inr (.inr rfl)⟩) ?_
  refine VA.all (rs := [4]) (by kernel_rfl) (by decide) ?_
  refine ⟨⟨_, rfl, .inl rfl, ?_⟩, trivial⟩
  refine OpE.store (i := 4) rfl hB rfl Tryz.sizeOf199 rfl rfl rfl rfl rfl rfl (Nle rfl) (⟨by decide, by first | exact .inl rfl | exact .inr (.inl rfl) | exact .inr (.inr rfl)⟩) ?_
  refine VA.all (rs := [5]) (by kernel_rfl) (by decide) ?_
  refine ⟨⟨_, rfl, .inl rfl, ?_⟩, trivial⟩
  refine OpE.store (i := 3) rfl hB rfl Tryz.sizeOf4 rfl rfl rfl rfl rfl rfl (Nle rfl) (⟨by decide, by first | exact .inl rfl | exact .inr (.inl rfl) | exact .inr (.inr rfl)⟩) ?_
  refine VA.done (by kernel_rfl) ?_
  exact Exists.intro _ (And.intro (RetV.none Tryz.results107) (by (try clear hap); first | (refine ⟨.slice b29 l.length c29, ?_⟩; rw [stepS_t (by first | exact .inl (by assumption) | exact .inr (cmp2_lt.1 (by assumption)))]; rfl) | exact ⟨ub, by rw [stepS_f (fun h => h.elim (fun h => Bool.noConfusion (h.symm.trans ‹a.first = false›)) (fun h => absurd (cmp2_lt.2 h) (by omega)))]; rfl⟩))
 ·have aK1 := aK1b
  try simp only [qq] at aK1
  refine VA.takeY (i := 2) rfl (by kernel_rfl) (by kernel_rfl) (by kernel_rfl) rfl rfl rfl rfl aK1b (OpV.fieldAddrO 0 rfl Tryz.underlying199 rfl rfl Tryz.sizeOf3 rfl) ?_
  refine VA.takeY (i := 3) rfl (by kernel_rfl) (by kernel_rfl) (by kernel_rfl) rfl rfl rfl rfl aK1b (OpV.load_own (i := 7) rfl hB Tryz.isAgg3 rfl rfl rfl Wi.not0) ?_
  refine VA.takeY (i := 4) rfl (by kernel_rfl) (by kernel_rfl) (by kernel_rfl) rfl rfl rfl rfl aK1b (OpV.fieldAddrO 0 rfl Tryz.underlying199 rfl rfl Tryz.sizeOf3 rfl) ?_
  refine VA.takeY (i := 5) rfl (by kernel_rfl) (by kernel_rfl) (by kernel_rfl) rfl rfl rfl rfl aK1b (OpV.load_own (i := 4) rfl hB Tryz.isAgg3 rfl rfl rfl Wi.not0) ?_
  refine VA.takeY (i := 7) rfl (by kernel_rfl) (by kernel_rfl) (by kernel_rfl) rfl rfl rfl rfl aK1b (OpV.fieldAddrO 2 rfl Tryz.underlying199 rfl rfl Tryz.sizeOf3 rfl) ?_
  refine VA.takeY (i := 8) rfl (by kernel_rfl) (by kernel_rfl) (by kernel_rfl) rfl rfl rfl rfl aK1b (OpV.load_own (i := 7) rfl hB Tryz.isAgg3 rfl rfl rfl Wi.not0) ?_
  refine VA.takeY (i := 9) rfl (by kernel_rfl) (by kernel_rfl) (by kernel_rfl) rfl rfl rfl rfl aK1b (OpV.fieldAddrO 2 rfl Tryz.underlying199 rfl rfl Tryz.sizeOf3 rfl) ?_
  refine VA.takeY (i := 10) rfl (by kernel_rfl) (by kernel_rfl) (by kernel_rfl) rfl rfl rfl rfl aK1b (OpV.load_own (i := 4) rfl hB Tryz.isAgg3 rfl rfl rfl Wi.not0) ?_
  refine VA.all (rs := [6]) (by kernel_rfl) (by decide) ?_
  refine ⟨⟨_, rfl, .inr ⟨_, _, _, rfl, rfl, (look_k rfl aK1b)⟩, ?_⟩, trivial⟩
  refine OpE.call rfl hB rfl Tryz.call94 rfl (SpecN.spec (cmp_Compare_int)) ?_
  rintro _ rfl
  refine VA.all (rs := [11]) (by kernel_rfl) (by decide) ?_
  refine ⟨⟨_, rfl, .inr ⟨_, _, _, rfl, rfl, (look_k rfl aK1b)⟩, ?_⟩, trivial⟩
  refine OpE.call rfl hB rfl Tryz.call94 rfl (SpecN.spec (cmp_Compare_int)) ?_
  rintro _ rfl
  refine VA.all (rs := [12]) (by kernel_rfl) (by decide) ?_
  refine ⟨⟨_, rfl, .inr ⟨_, _, _, rfl, rfl, (look_k rfl aK1b)⟩, ?_⟩, trivial⟩
  refine bI rfl hB rfl (by decide) rfl rfl ?_
  refine VA.le _ (Le.lits (t := 24) (xs := [cmpI (resP p o l start each l.length).late a.late, cmpI (resP p o l start each l.length).en a.en]) rfl rfl) ?_
  refine VA.all (rs := [13]) (by kernel_rfl) (by decide) ?_
  refine ⟨⟨_, rfl, .inr ⟨_, _, _, rfl, rfl, (look_k rfl aK1b)⟩, ?_⟩, trivial⟩
  refine OpE.call rfl hB rfl Tryz.call93 rfl (SpecN.spec (cmp_Or_int (by simp))) ?_
  rintro _ rfl
  refine VA.takeY (i := 14) rfl (by kernel_rfl) (by kernel_rfl) (by kernel_rfl) rfl rfl rfl rfl aK1b (OpV.lss rfl rfl rfl) ?_
  refine VA.tk (i := 15) rfl (OpV.pickF rfl rfl rfl rfl aK1b) ?_
  refine VA.done (by kernel_rfl) ?_
  refine VC.cond rfl (fun h0b => ?_) (fun h0b => ?_)
  ·have h0 := h0b
   try simp only [qq] at h0
   refine VC.hap (fun hap => ?_)
   have n7f := apart_ne hap (i := 7) (j := 3) rfl rfl (by decide)
   have n7l := apart_ne hap (i := 7) (j := 4) rfl rfl (by decide)
   have n7b := apart_ne hap (i := 7) (j := 5) rfl rfl (by decide)
   refine VC.draw (fun j b => j ∈ [3, 4, 5] ∧ (b = gb ∨ b = gl ∨ b = gf)) hB (by kernel_rfl) ?_
   refine VA.tk (i := 0) rfl (OpV.move (.inl rfl) rfl) ?_
   refine VA.tk (i := 2) rfl (OpV.loadK_own (i := 7) rfl hB Tryz.isAgg199 Tryz.sizeOf199 rfl rfl rfl (fun ⟨_, _, _, h⟩ => h.elim n7b (fun h => h.elim n7l n7f))) ?_
   refine VA.all (rs := [1]) (by kernel_rfl) (by decide) ?_
   refine ⟨⟨_, rfl, .inl rfl, ?_⟩, trivial⟩
   refine OpE.callR rfl hB rfl Tryz.call26 (slices_Clone_R (by omega)) (ArgsP.cons (ArgP.rowI (i := 0) rfl rfl hoc.symm) (ArgsP.nil)) ?_
   intro u29
   refine VA.le _ (Le.pickH [0, 1, 2, 3, 4, 5, 8] rfl rfl) ?_
   refine VA.rowIs (i := 6) rfl (fun b29 c29 hu29 => ?_)
   subst hu29
   refine VA.all (rs := [3]) (by kernel_rfl) (by decide) ?_
   refine ⟨⟨_, rfl, .inl rfl, ?_⟩, trivial⟩
   refine OpE.store (i := 5) rfl hB rfl Tryz.sizeOf22 rfl rfl rfl rfl rfl rfl (Nle rfl) (⟨by decide, by first | exact .inl rfl | exact .inr (.inl rfl) | exact .inr (.inr rfl)⟩) ?_
   refine VA.all (rs := [4]) (by kernel_rfl) (by decide) ?_
   refine ⟨⟨_, rfl, .inl rfl, ?_⟩, trivial⟩
   refine OpE.store (i := 4) rfl hB rfl Tryz.sizeOf199 rfl rfl rfl rfl rfl rfl (Nle rfl) (⟨by decide, by first | exact .inl rfl | exact .inr (.inl rfl) | exact .inr (.inr rfl)⟩) ?_
   refine VA.all (rs := [5]) (by kernel_rfl) (by decide) ?_
   refine ⟨⟨_, rfl, .inl rfl, ?_⟩, trivial⟩
   refine OpE.store (i := 3) rfl hB rfl Tryz.sizeOf4 rfl rfl rfl rfl rfl rfl (Nle rfl) (⟨by decide, by first | exact .inl rfl | exact .inr (.inl rfl) | exact .inr (.inr rfl)⟩) ?_
   refine VA.done (by kernel_rfl) ?_
   exact Exists.intro _ (And.intro (RetV.none Tryz.results107) (by (try clear hap); first | (refine ⟨.slice b29 l.length c29, ?_⟩; rw [stepS_t (by first | exact .inl (by assumption) | exact .inr (cmp2_lt.1 (by assumption)))]; rfl) | exact ⟨ub, by rw [stepS_f (fun h => h.elim (fun h => Bool.noConfusion (h.symm.trans ‹a.first = false›)) (fun h => absurd (cmp2_lt.2 h) (by omega)))]; rfl⟩))
  ·have h0 := h0b
   try simp only [qq] at h0
   refine VC.le _ (Le.pickH [0, 1, 2, 3, 4, 5, 6] rfl rfl) ?_
   refine VC.skip ?_
   exact Exists.intro _ (And.intro (RetV.none Tryz.results107) (by (try clear hap); first | (refine ⟨.slice b29 l.length c29, ?_⟩; rw [stepS_t (by first | exact .inl (by assumption) | exact .inr (cmp2_lt.1 (by assumption)))]; rfl) | exact ⟨ub, by rw [stepS_f (fun h => h.elim (fun h => Bool.noConfusion (h.symm.trans ‹a.first = false›)) (fun h => absurd (cmp2_lt.2 h) (by omega)))]; rfl⟩))
end
section
def KB (p : List PaceS) (o : List OrdrS) (start each : Int) (Ts Ti Tb Tr To : TypeId) (gs gt gf gl gb : Nat) (a : SchS) (h : List Ent) : Prop :=
 ∃ ub, h = bestOS p o start each Ts Ti Tb Tr To gs gt gf gl gb ub a
theorem plan_best_does {p : List PaceS} {o : List OrdrS} {start each : Int} {gs gt gf gl gb : Nat} (hb : bothF p o = 0) (hs : startF start each = 0) :
  DoesP o.length (KB p o start each 196 3 4 199 22 gs gt gf gl gb) (stepS p o start each) Tryz.prog 107 #[ptv gs, ptv gt, ptv gf, ptv gl, ptv gb] 3 := by
 rintro l c a h u ho hoc hcn ⟨ub, rfl⟩
 refine (plan_Best1 (a := a) (mkSch hb hs ho (hoc.trans hcn)) hoc).mono ?_
 rintro y hp' ⟨ub', rfl⟩
 exact ⟨_, ⟨ub', rfl⟩, rfl⟩
theorem plan_Best {p : List PaceS} {o : List OrdrS} {start each : Int} (hp : SmPc p) (ho : SmOr o) :
  SpecH Tryz.prog 41 [avL p, avL o, avI start, avI each] [] (fun y hp' => ∃ u, y = .tup [.v u, avI (bestSK p o start each), avI (bestSE p o start each)] ∧ hp' = [.row u ((bestSL p o start each).length) (1) (intsL (bestSL p o start each)) (3)]) := by
 refine SpecH.of_VC Tryz.func41 rfl Tryz.ntmps41 (Nle rfl) fun w A hB => ?_
 refine VC.sr ?_
 refine VO.op rfl (OpE.box rfl hB rfl rfl rfl ?_)
 intro gt
 refine VO.mb ?_
 refine VO.mb ?_
 refine VO.mb ?_
 refine VO.nil ?_
 refine VC.seq ?_
 refine VC.sr ?_
 refine VO.mw ?_
 refine VO.mw ?_
 refine VO.op rfl (OpE.call rfl hB rfl Tryz.call103 rfl (SpecN.spec (plan_fault hp ho)) ?_)
 rintro _ rfl
 refine VO.mb ?_
 refine VO.nil ?_
 refine VC.sr ?_
 refine VO.mw ?_
 refine VO.vv (OpV.neq rfl rfl rfl) ?_
 refine VO.nil ?_
 refine VC.cond rfl (fun h0b => ?_) (fun h0b => ?_)
 ·have h0 := h0b
  try simp only [qq] at h0
  have hE : bestSE p o start each = bothF p o := bestSE_1 h0
  rw [(bestS_no (by rw [hE]; exact h0)).1, (bestS_no (by rw [hE]; exact h0)).2, hE]
  refine VC.sr ?_
  refine VO.mw ?_
  refine VO.mb ?_
  refine VO.mb ?_
  refine VO.mb ?_
  refine VO.nil ?_
  refine VC.le _ (Le.nilRow 1 3) ?_
  refine VC.le ⟨[(8, _), (9, _), (10, _)], [_], 0⟩ (Le.pick hB [1] ⟨rfl, rfl, rfl, trivial⟩ rfl rfl (Nat.le_refl _)) ?_
  refine VC.ret ?_
  exact Exists.intro _ (And.intro (RetV.three Tryz.results41 (ResV.tmp rfl) (ResV.tmp rfl) (ResV.tmp rfl)) (⟨_, rfl, rfl⟩))
 ·have h0 := h0b
  try simp only [qq] at h0
  have h00 : bothF p o = 0 := by omega
  refine VC.skip ?_
  refine VC.seq ?_
  refine VC.sr ?_
  refine VO.vv (OpV.load_own (i := 0) rfl hB Tryz.isAgg3 rfl rfl rfl (fun h => h)) ?_
  refine VO.mw ?_
  refine VO.op rfl (OpE.call rfl hB rfl Tryz.call104 rfl (SpecN.spec (plan_numbersFault)) ?_)
  rintro _ rfl
  refine VO.mb ?_
  refine VO.nil ?_
  refine VC.sr ?_
  refine VO.mw ?_
  refine VO.vv (OpV.neq rfl rfl rfl) ?_
  refine VO.nil ?_
  refine VC.cond rfl (fun h1b => ?_) (fun h1b => ?_)
  ·have h1 := h1b
   try simp only [qq] at h1
   have hE : bestSE p o start each = startF start each := bestSE_2 h00 h1
   rw [(bestS_no (by rw [hE]; exact h1)).1, (bestS_no (by rw [hE]; exact h1)).2, hE]
   refine VC.sr ?_
   refine VO.mw ?_
   refine VO.mb ?_
   refine VO.mb ?_
   refine VO.mb ?_
   refine VO.nil ?_
   refine VC.le _ (Le.nilRow 1 3) ?_
   refine VC.le ⟨[(8, _), (9, _), (10, _)], [_], 0⟩ (Le.pick hB [1] ⟨rfl, rfl, rfl, trivial⟩ rfl rfl (Nat.le_refl _)) ?_
   refine VC.ret ?_
   exact Exists.intro _ (And.intro (RetV.three Tryz.results41 (ResV.tmp rfl) (ResV.tmp rfl) (ResV.tmp rfl)) (⟨_, rfl, rfl⟩))
  ·have h1 := h1b
   try simp only [qq] at h1
   have h10 : startF start each = 0 := by omega
   refine VC.skip ?_
   refine VC.seq ?_
   refine VC.sr ?_
   refine VO.mw ?_
   refine VO.vv (OpV.len_im rfl Tryz.underlying93 rfl) ?_
   refine VO.vv (OpV.gtr rfl rfl rfl) ?_
   refine VO.nil ?_
   refine VC.cond rfl (fun h2b => ?_) (fun h2b => ?_)
   ·have h2 := h2b
    try simp only [qq] at h2
    have hE : bestSE p o start each = 2 := bestSE_3 h00 h10 (by omega)
    rw [(bestS_no (by rw [hE]; decide)).1, (bestS_no (by rw [hE]; decide)).2, hE]
    refine VC.sr ?_
    refine VO.mb ?_
    refine VO.mb ?_
    refine VO.mb ?_
    refine VO.nil ?_
    refine VC.le _ (Le.nilRow 1 3) ?_
    refine VC.le ⟨[(8, _), (9, _), (10, _)], [_], 0⟩ (Le.pick hB [1] ⟨rfl, rfl, rfl, trivial⟩ rfl rfl (Nat.le_refl _)) ?_
    refine VC.ret ?_
    exact Exists.intro _ (And.intro (RetV.three Tryz.results41 (ResV.tmp rfl) (ResV.tmp rfl) (ResV.tmp rfl)) (⟨_, rfl, rfl⟩))
   ·have h2 := h2b
    try simp only [qq] at h2
    have hE : bestSE p o start each = 0 := bestSE_0 h00 h10 (by omega)
    have hb0 := bothF_0 h00
    rw [(bestS_ok hE).1, (bestS_ok hE).2, hE]
    refine VC.skip ?_
    refine VC.sr ?_
    refine VO.mw ?_
    refine VO.mw ?_
    refine VO.mw ?_
    refine VO.op rfl (OpE.call rfl hB rfl Tryz.call105 rfl (plan_newScheduler hp (pacesOk hb0.1) (ordrsOk hb0.2.1).bd (bothF_has h00) (startF_0 h10).2) ?_)
    rintro _ rfl
    refine VO.op rfl (OpE.alloc rfl hB rfl Tryz.zeroValue196 rfl ?_)
    intro gs
    refine VO.op rfl (OpE.store (i := 1) rfl hB rfl Tryz.sizeOf196 rfl rfl rfl rfl rfl rfl (Nle rfl) trivial ?_)
    refine VO.nil ?_
    refine VC.sr ?_
    refine VO.op rfl (OpE.alloc rfl hB rfl Tryz.zeroValue22 rfl ?_)
    intro gb
    refine VO.nil ?_
    refine VC.sr ?_
    refine VO.op rfl (OpE.alloc rfl hB rfl Tryz.zeroValue199 rfl ?_)
    intro gl
    refine VO.nil ?_
    refine VC.sr ?_
    refine VO.op rfl (OpE.alloc rfl hB rfl Tryz.zeroValue4 rfl ?_)
    intro gf
    refine VO.op rfl (OpE.store (i := 4) rfl hB rfl Tryz.sizeOf4 rfl rfl rfl rfl rfl rfl (Nle rfl) trivial ?_)
    refine VO.nil ?_
    refine VC.seq ?_
    refine VC.le _ ((Le.nilRow 1 3).trans (Le.pickH [1, 0, 4, 3, 2, 5] rfl rfl)) ?_
    refine VC.region ?_
    refine VO.mw ?_
    refine VO.vv (OpV.len_im rfl Tryz.underlying93 rfl) ?_
    refine VO.vv (OpV.makeFunc5 rfl rfl rfl rfl rfl rfl) ?_
    refine VO.op rfl (OpE.callH0 rfl hB rfl Tryz.call106 rfl rfl (plan_orders (h := bestOS p o start each 196 3 4 199 22 gs gt gf gl gb (.slice none 0 0) ⟨[], 0, 0, 0, true⟩) (by omega) Tryz.call107 (plan_best_does h00 h10) (a := ⟨[], 0, 0, 0, true⟩) ⟨.slice none 0 0, rfl⟩) (List.Perm.refl _) (fun _ _ => trivial) ?_)
    rintro _ _ ⟨_, ⟨ub, rfl⟩, rfl⟩
    refine VO.nil ?_
    refine VC.seq ?_
    refine VC.draw (fun _ => NoB) hB (by kernel_rfl) ?_
    refine VA.tk (i := 0) rfl (OpV.load_own (i := 4) rfl hB Tryz.isAgg22 rfl rfl rfl Wi.not0) ?_
    refine VA.tk (i := 1) rfl (OpV.fieldAddrO 0 rfl Tryz.underlying199 rfl rfl Tryz.sizeOf3 rfl) ?_
    refine VA.tk (i := 2) rfl (OpV.load_own (i := 3) rfl hB Tryz.isAgg3 rfl rfl rfl Wi.not0) ?_
    refine VA.tk (i := 3) rfl (OpV.move (.inr rfl) rfl) ?_
    refine VA.tk (i := 4) rfl (OpV.move (.inr rfl) rfl) ?_
    refine VA.tk (i := 5) rfl (OpV.move (.inr rfl) rfl) ?_
    refine VA.done (by kernel_rfl) ?_
    refine VC.le ⟨[(8, _), (9, _), (10, _)], [_], 0⟩ (Le.pick hB [5] ⟨rfl, rfl, rfl, trivial⟩ rfl rfl (Nat.le_refl _)) ?_
    refine VC.ret ?_
    exact Exists.intro _ (And.intro (RetV.three Tryz.results41 (ResV.tmp rfl) (ResV.tmp rfl) (ResV.tmp rfl)) (⟨ub, rfl, rfl⟩))
end
section
section
variable {P : Program} {ops : Array Oper} {Q : Act → World → Prop} {md : Region.Mode} {E : Nat → World → World → Prop}
theorem wpAnyE_firstT {S : Nat → Bool} {F : World → World → Prop} (htr : ∀ x y z, F x y → F y z → F x z) (hrf : ∀ x, F x x) {i : Nat} (hEr : ∀ x, E i x x)
  (hEF : ∀ j oj, ops[j]? = some oj → S j = false → ∀ w w', E j w w' → F w w') (hcl : ∀ k, S k = true → k ≠ i → ∃ ok, ops[k]? = some ok ∧ ∃ e ∈ ok.after, Region.binds md e = true ∧ S e.on = true)
  {oi : Oper} {v : Value} (hi : ops[i]? = some oi) (hsel : ∀ (j : Nat) (o : Oper) cs b, ops[j]? = some o → o.op ≠ .select cs b) :
  ∀ (fuel : Nat) (listed : Array Bool) (a : Act) (w : World), (∀ k, S k = true → listed.getD k true = false) →
   (∀ j oj, ops[j]? = some oj → j ≠ i → listed.getD j true = false → (∀ e ∈ oj.after, Region.binds md e = true → e.on ≠ i) → oi.apart ops oj = true) →
   i ∈ Region.ready md ops listed → YieldsE P ops F oi v a w →
   wpAnyE P md ops Q E fuel (listed.setIfInBounds i true) (a.put oi.dst v) w → wpAnyE P md ops Q E (fuel + 1) listed a w := by
 intro fuel
 induction fuel with
 | zero =>
  intro listed a w _ _ hr hy H
  refine ⟨fun h => (by rw [h] at hr; cases hr), fun j hj => ?_⟩
  by_cases hji : j = i
  ·subst hji; exact YieldsIf.wpOp hi hy.iff (hrf w) ⟨hEr w, H⟩
  ·have := ready_mono hj hji
   rw [H.1] at this
   cases this
 | succ fuel ih =>
  intro listed a w hS hfree hr hy H
  refine ⟨fun h => (by rw [h] at hr; cases hr), fun j hj => ?_⟩
  by_cases hji : j = i
  ·subst hji; exact YieldsIf.wpOp hi hy.iff (hrf w) ⟨hEr w, H⟩
  ·have h1 := H.2 j (ready_mono hj hji)
   obtain ⟨hjun, oj, hoj, hall⟩ := mem_ready.1 hj
   have hnot : ∀ e ∈ oj.after, Region.binds md e = true → e.on ≠ i := fun e he hb heq => by
    have h1 := hall e he hb
    have h0 := (mem_ready.1 hr).1
    rw [heq] at h1
    rcases Nat.lt_or_ge i listed.size with h' | h'
    ·simp [h'] at h0 h1; rw [h0] at h1; cases h1
    ·simp [Array.getElem?_eq_none h'] at h1
   have hjS : S j = false := by
    cases hc : S j with
    | false => rfl
    | true =>
     obtain ⟨ok, k1, e, he, hb, k2⟩ := hcl j hc hji
     obtain rfl : oj = ok := Option.some.inj (hoj.symm.trans k1)
     have h1 := hall e he hb
     have h0 := hS e.on k2
     rcases Nat.lt_or_ge e.on listed.size with h' | h'
     ·simp [h'] at h0 h1; rw [h0] at h1; cases h1
     ·simp [Array.getElem?_eq_none h'] at h1
   have h2 := wpOp_putIf (S := F w) hoj (hfree j oj hoj hji hjun hnot) (fun cs b => hsel i oi cs b hi) (fun cs b => hsel j oj cs b hoj) (fun c a w h => h.elim) hy.iff h1
   have hfree' : ∀ k ok, ops[k]? = some ok → k ≠ i → (listed.setIfInBounds j true).getD k true = false →
     (∀ e ∈ ok.after, Region.binds md e = true → e.on ≠ i) → oi.apart ops ok = true := fun k ok hk hki hun hno => by
    refine hfree k ok hk hki ?_ hno
    by_cases hjk : j = k
    ·subst hjk; exact hjun
    ·rw [Go.getD_set_ne true hjk] at hun; exact hun
   have hS' : ∀ k, S k = true → (listed.setIfInBounds j true).getD k true = false := fun k hk => by
    have hjk : j ≠ k := fun e => by rw [e, hk] at hjS; cases hjS
    rw [Go.getD_set_ne true hjk]; exact hS k hk
   refine wpOp_mono (fun a' w' h3 => ⟨h3.2.1, ih (listed.setIfInBounds j true) a' w' hS' hfree' (ready_mono hr (Ne.symm hji)) ?_ ?_⟩) h2
   ·rcases h3.1 with ⟨k1, k2⟩ | k
    ·exact .inl ⟨k1, fun w'' hw'' => k2 w'' (htr _ _ _ (hEF j oj hoj hjS _ _ h3.2.1) hw'')⟩
    ·exact .inr k
   rw [Array.setIfInBounds_comm _ _ hji]
   exact h3.2.2
end
section
variable {P : Program} {B : Bs} {V : Nat → Nat → Prop} {ops : Array Oper} {s : St'} {Q : Exit → St' → Prop} {n : Nat} {L : Array Bool}
def WS (V : Nat → Nat → Prop) (S : List Nat) : Nat → Prop := fun b => ∃ j, S.contains j = false ∧ V j b
def hangB (ops : Array Oper) (S : List Nat) (i : Nat) : Bool := S.all fun k => k == i || match ops[k]? with
 | some o => o.after.any fun e => Region.binds .any e && S.contains e.on
 | none => false
theorem VA.takeT (S : List Nat) {i : Nat} {o : Oper} {x : AV} (hS : hangB ops S i = true) (hL : (S.all fun k => !(L.getD k true)) = true) (hi : ops[i]? = some o) (hs : Region.noSelect ops = true) (hf : Region.free .any ops L i = true) (hr : (Region.ready .any ops L).contains i = true) (hg : o.guard = none) (hd : okd B.nt o.dst = true)
  (hv : OpV P B (WS V S) s o x) (h : VA P B V ops Q n (L.setIfInBounds i true) (s.put o.dst x)) : VA P B V ops Q (n + 1) L s := fun a w hR => by
 obtain ⟨v, h1, h2⟩ := hv a w hR
 refine wpAnyE_firstT (S := fun k => S.contains k) (F := Ew B (WS V S)) Ew.tr Ew.rf (fun x => Ew.rf x) (fun j oj hj hjS w w' h => h.mono fun b _ hb => hb.imp id fun hv => ⟨j, hjS, hv⟩) (fun k hk hki => ?_) hi (Region.noSelect_spec hs) n L a w (fun k hk => ?_) (Region.free_spec hi hf) (by simpa using hr) (.inl ⟨by simp [Region.wanted, hg], h1⟩) (h _ _ (hR.put _ hd _ _ h2))
 ·have hk' : k ∈ S := by simpa using hk
  have := List.all_eq_true.1 hS k hk'
  simp only [Bool.or_eq_true, beq_iff_eq] at this
  have := this.resolve_left hki
  cases ho : ops[k]? with
  | none => rw [ho] at this; cases this
  | some ok =>
   rw [ho] at this
   obtain ⟨e, he, h3⟩ := Array.any_eq_true'.1 this
   simp only [Bool.and_eq_true] at h3
   exact ⟨ok, rfl, e, he, h3.1, h3.2⟩
 ·have hk' : k ∈ S := by simpa using hk
  have := List.all_eq_true.1 hL k hk'
  simpa using this
end
end
end Go.Proofs.YtcploodfholkkaaGreatDoor
