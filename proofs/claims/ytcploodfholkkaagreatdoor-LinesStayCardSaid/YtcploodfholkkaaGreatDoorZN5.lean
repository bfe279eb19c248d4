/- Part 5 of a proof: the walks and laws that it needs. -/
import Derived.Test.YtcploodfholkkaaGreatDoorZN4
set_option linter.unusedVariables false
set_option linter.unusedSimpArgs false
namespace Go.Proofs.YtcploodfholkkaaGreatDoor
open Go.RowKit
set_option maxRecDepth 100000
section
abbrev boxPc (g : Nat) (x : PaceS) (ty : TypeId) : Ent := .box g ⟨[avS x.product, avI x.cycle, avL x.needs], ty, 3⟩
theorem nil_pace {w : World} {Z : Nat → Prop} {u : Value} (h : Rep w Z (.agg [avS ⟨#[]⟩, avI 0, .v (.slice none 0 0)]) u) : Rep w Z (avPc default) u := by
 cases h with
 | agg cs us hl hr =>
  refine .agg _ us hl fun j hj => ?_
  match j, hj with
  | 0, _ => exact hr 0 (by simp)
  | 1, _ => exact hr 1 (by simp)
  | 2, _ =>
   have := hr 2 (by simp)
   show Rep w Z (.im 0 2 _) _
   rw [this.eq_v]; exact .nil _ _
set_option maxHeartbeats 4000000 in
theorem plan_orderFault {o : List OrdrS} {i : Nat} (hs : SmOr o) (hi : i < o.length) :
    SpecN Tryz.prog 195 [avL o, avI (i : Int)] (fun y => y = avI (ordrE o i)) := by
  refine SpecN.of_VCN Tryz.func195 rfl Tryz.ntmps195 (Nle rfl) fun w A hB => ?_
  refine VC.seq ?_
  have hl := hs.len
  refine VC.region ?_
  refine VO.mb ?_
  refine VO.nil ?_
  refine VC.sr ?_
  refine VO.mw ?_
  refine VO.mw ?_
  refine VO.vv (OpV.indexAddr_E rfl Tryz.underlying93 Tryz.sizeOf110 rfl rfl rfl (by omega)) ?_
  refine VO.vv (OpV.loadK_at rfl hB OutW.no Tryz.isAgg110 Tryz.sizeOf110 rfl rfl) ?_
  refine VO.op rfl (OpE.alloc rfl hB rfl Tryz.zeroValue110 rfl ?_)
  intro g5
  refine VO.op rfl (OpE.store (i := 0) rfl hB rfl Tryz.sizeOf110 rfl rfl rfl rfl rfl rfl (Nle rfl) trivial ?_)
  refine VO.nil ?_
  refine VC.seq ?_
  refine VC.block ?_
  refine VC.sr ?_
  refine VO.vv (OpV.fieldAddrO 0 rfl Tryz.underlying110 rfl rfl Tryz.sizeOf9 rfl) ?_
  refine VO.vv (OpV.load_own (i := 0) rfl hB Tryz.isAgg9 rfl rfl rfl (fun h => h)) ?_
  refine VO.op rfl (OpE.call rfl hB rfl Tryz.call230 rfl (SpecN.spec (kit_IsKey (by have := hs.key i; omega))) ?_)
  rintro _ rfl
  refine VO.vv (OpV.not rfl rfl) ?_
  refine VO.mw ?_
  refine VO.opG rfl rfl rfl rfl (fun aK1b => ?_) (fun aK1b => ?_)
  · replace aK1b : _ = false := aK1b
    have aK1 := aK1b
    try simp only [qq] at aK1
    refine OpE.val (W := NoB) (OpV.fieldAddrO 1 rfl Tryz.underlying110 rfl rfl Tryz.sizeOf9 rfl) rfl ?_
    refine VO.opY rfl rfl rfl rfl aK1b ?_
    refine OpE.val (W := NoB) (OpV.load_own (i := 0) rfl hB Tryz.isAgg9 rfl rfl rfl (fun h => h)) rfl ?_
    refine VO.opY rfl rfl rfl rfl aK1b ?_
    refine OpE.call rfl hB rfl Tryz.call230 rfl (SpecN.spec (kit_IsKey (by have := hs.prod i; omega))) ?_
    rintro _ rfl
    refine VO.opY rfl rfl rfl rfl aK1b ?_
    refine OpE.val (W := NoB) (OpV.not rfl rfl) rfl ?_
    refine VO.vv (OpV.pickF rfl rfl rfl rfl aK1b) ?_
    refine VO.mb ?_
    refine VO.nil ?_
    refine VC.cond rfl (fun aH2b => ?_) (fun aH2b => ?_)
    · have aH2 := aH2b
      try simp only [qq] at aH2
      refine VC.sr ?_
      refine VO.mb ?_
      refine VO.nil ?_
      refine VC.ret ?_
      exact Exists.intro _ (And.intro (RetN.one Tryz.results195 (ResN.v rfl)) (by first | rw [ordrE_5a (by assumption)] | rw [ordrE_5b (by assumption)]))
    · have aH2 := aH2b
      try simp only [qq] at aH2
      refine VC.sr ?_
      refine VO.vv (OpV.fieldAddrO 2 rfl Tryz.underlying110 rfl rfl Tryz.sizeOf3 rfl) ?_
      refine VO.vv (OpV.load_own (i := 0) rfl hB Tryz.isAgg3 rfl rfl rfl (fun h => h)) ?_
      refine VO.op rfl (OpE.call rfl hB rfl Tryz.call161 rfl (SpecN.spec (kit_Outside)) ?_)
      rintro _ rfl
      refine VO.mw ?_
      refine VO.opG rfl rfl rfl rfl (fun aK3b => ?_) (fun aK3b => ?_)
      · replace aK3b : _ = false := aK3b
        have aK3 := aK3b
        try simp only [qq] at aK3
        refine OpE.val (W := NoB) (OpV.fieldAddrO 3 rfl Tryz.underlying110 rfl rfl Tryz.sizeOf3 rfl) rfl ?_
        refine VO.opY rfl rfl rfl rfl aK3b ?_
        refine OpE.val (W := NoB) (OpV.load_own (i := 0) rfl hB Tryz.isAgg3 rfl rfl rfl (fun h => h)) rfl ?_
        refine VO.opY rfl rfl rfl rfl aK3b ?_
        refine OpE.call rfl hB rfl Tryz.call188 rfl (SpecN.spec (kit_IsMoment)) ?_
        rintro _ rfl
        refine VO.opY rfl rfl rfl rfl aK3b ?_
        refine OpE.val (W := NoB) (OpV.not rfl rfl) rfl ?_
        refine VO.vv (OpV.pickF rfl rfl rfl rfl aK3b) ?_
        refine VO.mw ?_
        refine VO.opG rfl rfl rfl rfl (fun aK4b => ?_) (fun aK4b => ?_)
        · replace aK4b : _ = false := aK4b
          have aK4 := aK4b
          try simp only [qq] at aK4
          refine OpE.val (W := NoB) (OpV.fieldAddrO 4 rfl Tryz.underlying110 rfl rfl Tryz.sizeOf3 rfl) rfl ?_
          refine VO.opY rfl rfl rfl rfl aK4b ?_
          refine OpE.val (W := NoB) (OpV.load_own (i := 0) rfl hB Tryz.isAgg3 rfl rfl rfl (fun h => h)) rfl ?_
          refine VO.opY rfl rfl rfl rfl aK4b ?_
          refine OpE.call rfl hB rfl Tryz.call188 rfl (SpecN.spec (kit_IsMoment)) ?_
          rintro _ rfl
          refine VO.opY rfl rfl rfl rfl aK4b ?_
          refine OpE.val (W := NoB) (OpV.not rfl rfl) rfl ?_
          refine VO.vv (OpV.pickF rfl rfl rfl rfl aK4b) ?_
          refine VO.mb ?_
          refine VO.nil ?_
          refine VC.cond rfl (fun aH5b => ?_) (fun aH5b => ?_)
          · have aH5 := aH5b
            try simp only [qq] at aH5
            refine VC.sr ?_
            refine VO.mb ?_
            refine VO.nil ?_
            refine VC.ret ?_
            exact Exists.intro _ (And.intro (RetN.one Tryz.results195 (ResN.v rfl)) (by rw [ordrE_1 (by assumption) (by assumption) (by first | exact or3a (by assumption) | exact or3b (by assumption) | exact or3c (by assumption))]))
          · have aH5 := aH5b
            try simp only [qq] at aH5
            refine VC.seq ?_
            refine VC.draw (fun _ => NoB) hB (by kernel_rfl) ?_
            refine VA.tk (i := 0) rfl (OpV.move (.inl rfl) rfl) ?_
            refine VA.tk (i := 1) rfl (OpV.gtr rfl rfl rfl) ?_
            refine VA.tk (i := 2) rfl (OpV.move (.inl rfl) rfl) ?_
            refine VA.split (t := 40) rfl (fun aK6b => ?_) (fun aK6b => ?_)
            · have aK6 := aK6b
              try simp only [qq] at aK6
              refine VA.takeY (i := 3) rfl (by kernel_rfl) (by kernel_rfl) (by kernel_rfl) rfl rfl rfl rfl aK6b (OpV.fieldAddrO 0 rfl Tryz.underlying110 rfl rfl Tryz.sizeOf9 rfl) ?_
              refine VA.takeY (i := 4) rfl (by kernel_rfl) (by kernel_rfl) (by kernel_rfl) rfl rfl rfl rfl aK6b (OpV.load_own (i := 0) rfl hB Tryz.isAgg9 rfl rfl rfl Wi.not0) ?_
              refine VA.takeY (i := 5) rfl (by kernel_rfl) (by kernel_rfl) (by kernel_rfl) rfl rfl rfl rfl aK6b (OpV.move (.inl rfl) rfl) ?_
              refine VA.takeY (i := 6) rfl (by kernel_rfl) (by kernel_rfl) (by kernel_rfl) rfl rfl rfl rfl aK6b (OpV.move (.inl rfl) rfl) ?_
              refine VA.takeY (i := 7) rfl (by kernel_rfl) (by kernel_rfl) (by kernel_rfl) rfl rfl rfl rfl aK6b (OpV.sub rfl rfl rfl (by unfold fits; omega)) ?_
              refine VA.takeY (i := 8) rfl (by kernel_rfl) (by kernel_rfl) (by kernel_rfl) rfl rfl rfl rfl aK6b (OpV.indexAddr_E rfl Tryz.underlying93 Tryz.sizeOf110 rfl rfl (show ((i : Int) - 1) = ((i - 1 : Nat) : Int) by omega) (by omega)) ?_
              refine VA.takeY (i := 9) rfl (by kernel_rfl) (by kernel_rfl) (by kernel_rfl) rfl rfl rfl rfl aK6b (OpV.fieldAddr_atO 0 rfl Tryz.underlying110 rfl rfl Tryz.sizeOf9 rfl rfl) ?_
              refine VA.takeY (i := 10) rfl (by kernel_rfl) (by kernel_rfl) (by kernel_rfl) rfl rfl rfl rfl aK6b (OpV.load_at rfl hB OutW.wi0 Tryz.isAgg9 rfl rfl) ?_
              refine VA.takeY (i := 11) rfl (by kernel_rfl) (by kernel_rfl) (by kernel_rfl) rfl rfl rfl rfl aK6b (OpV.sleq rfl rfl rfl) ?_
              refine VA.tk (i := 12) rfl (OpV.pickT rfl rfl rfl rfl aK6b) ?_
              refine VA.tk (i := 13) rfl (OpV.move (.inr rfl) rfl) ?_
              refine VA.done (by kernel_rfl) ?_
              refine VC.cond rfl (fun aH7b => ?_) (fun aH7b => ?_)
              · have aH7 := aH7b
                try simp only [qq] at aH7
                refine VC.sr ?_
                refine VO.mb ?_
                refine VO.nil ?_
                refine VC.ret ?_
                exact Exists.intro _ (And.intro (RetN.one Tryz.results195 (ResN.v rfl)) (by rw [ordrE_7 (by assumption) (by assumption) (or3f (by assumption) (by assumption) (by assumption)) (by omega) (by assumption)]))
              · have aH7 := aH7b
                try simp only [qq] at aH7
                refine VC.skip ?_
                refine VC.sr ?_
                refine VO.mb ?_
                refine VO.nil ?_
                refine VC.ret ?_
                exact Exists.intro _ (And.intro (RetN.one Tryz.results195 (ResN.v rfl)) (by first | rw [ordrE_0 (by assumption) (by assumption) (or3f (by assumption) (by assumption) (by assumption)) (.inr (by assumption))] | rw [ordrE_0 (by assumption) (by assumption) (or3f (by assumption) (by assumption) (by assumption)) (.inl (by omega))]))
            · have aK6 := aK6b
              try simp only [qq] at aK6
              refine VA.takeX (i := 3) rfl (by kernel_rfl) (by kernel_rfl) (by kernel_rfl) rfl rfl rfl rfl aK6b ?_
              refine VA.takeX (i := 4) rfl (by kernel_rfl) (by kernel_rfl) (by kernel_rfl) rfl rfl rfl rfl aK6b ?_
              refine VA.takeX (i := 5) rfl (by kernel_rfl) (by kernel_rfl) (by kernel_rfl) rfl rfl rfl rfl aK6b ?_
              refine VA.takeX (i := 6) rfl (by kernel_rfl) (by kernel_rfl) (by kernel_rfl) rfl rfl rfl rfl aK6b ?_
              refine VA.takeX (i := 7) rfl (by kernel_rfl) (by kernel_rfl) (by kernel_rfl) rfl rfl rfl rfl aK6b ?_
              refine VA.takeX (i := 8) rfl (by kernel_rfl) (by kernel_rfl) (by kernel_rfl) rfl rfl rfl rfl aK6b ?_
              refine VA.takeX (i := 9) rfl (by kernel_rfl) (by kernel_rfl) (by kernel_rfl) rfl rfl rfl rfl aK6b ?_
              refine VA.takeX (i := 10) rfl (by kernel_rfl) (by kernel_rfl) (by kernel_rfl) rfl rfl rfl rfl aK6b ?_
              refine VA.takeX (i := 11) rfl (by kernel_rfl) (by kernel_rfl) (by kernel_rfl) rfl rfl rfl rfl aK6b ?_
              refine VA.tk (i := 12) rfl (OpV.pickF rfl rfl rfl rfl aK6b) ?_
              refine VA.tk (i := 13) rfl (OpV.move (.inr rfl) rfl) ?_
              refine VA.done (by kernel_rfl) ?_
              refine VC.condF rfl rfl ?_
              refine VC.skip ?_
              refine VC.sr ?_
              refine VO.mb ?_
              refine VO.nil ?_
              refine VC.ret ?_
              exact Exists.intro _ (And.intro (RetN.one Tryz.results195 (ResN.v rfl)) (by first | rw [ordrE_0 (by assumption) (by assumption) (or3f (by assumption) (by assumption) (by assumption)) (.inr (by assumption))] | rw [ordrE_0 (by assumption) (by assumption) (or3f (by assumption) (by assumption) (by assumption)) (.inl (by omega))]))
        · replace aK4b : _ = true := aK4b
          have aK4 := aK4b
          try simp only [qq] at aK4
          refine VO.opX rfl rfl rfl rfl aK4b ?_
          refine VO.opX rfl rfl rfl rfl aK4b ?_
          refine VO.opX rfl rfl rfl rfl aK4b ?_
          refine VO.vv (OpV.pickT rfl rfl rfl rfl aK4b) ?_
          refine VO.mb ?_
          refine VO.nil ?_
          refine VC.condT rfl rfl ?_
          refine VC.sr ?_
          refine VO.mb ?_
          refine VO.nil ?_
          refine VC.ret ?_
          exact Exists.intro _ (And.intro (RetN.one Tryz.results195 (ResN.v rfl)) (by rw [ordrE_1 (by assumption) (by assumption) (by first | exact or3a (by assumption) | exact or3b (by assumption) | exact or3c (by assumption))]))
      · replace aK3b : _ = true := aK3b
        have aK3 := aK3b
        try simp only [qq] at aK3
        refine VO.opX rfl rfl rfl rfl aK3b ?_
        refine VO.opX rfl rfl rfl rfl aK3b ?_
        refine VO.opX rfl rfl rfl rfl aK3b ?_
        refine VO.vv (OpV.pickT rfl rfl rfl rfl aK3b) ?_
        refine VO.mw ?_
        refine VO.opX rfl rfl rfl rfl rfl ?_
        refine VO.opX rfl rfl rfl rfl rfl ?_
        refine VO.opX rfl rfl rfl rfl rfl ?_
        refine VO.opX rfl rfl rfl rfl rfl ?_
        refine VO.vv (OpV.pickT rfl rfl rfl rfl rfl) ?_
        refine VO.mb ?_
        refine VO.nil ?_
        refine VC.condT rfl rfl ?_
        refine VC.sr ?_
        refine VO.mb ?_
        refine VO.nil ?_
        refine VC.ret ?_
        exact Exists.intro _ (And.intro (RetN.one Tryz.results195 (ResN.v rfl)) (by rw [ordrE_1 (by assumption) (by assumption) (by first | exact or3a (by assumption) | exact or3b (by assumption) | exact or3c (by assumption))]))
  · replace aK1b : _ = true := aK1b
    have aK1 := aK1b
    try simp only [qq] at aK1
    refine VO.opX rfl rfl rfl rfl aK1b ?_
    refine VO.opX rfl rfl rfl rfl aK1b ?_
    refine VO.opX rfl rfl rfl rfl aK1b ?_
    refine VO.vv (OpV.pickT rfl rfl rfl rfl aK1b) ?_
    refine VO.mb ?_
    refine VO.nil ?_
    refine VC.condT rfl rfl ?_
    refine VC.sr ?_
    refine VO.mb ?_
    refine VO.nil ?_
    refine VC.ret ?_
    exact Exists.intro _ (And.intro (RetN.one Tryz.results195 (ResN.v rfl)) (by first | rw [ordrE_5a (by assumption)] | rw [ordrE_5b (by assumption)]))
theorem plan_CheckOrders {o : List OrdrS} (hs : SmOr o) :
  SpecN Tryz.prog 119 [avL o] (fun y => y = avI (ordrF o)) := by
 refine SpecN.of_VCN Tryz.func119 rfl Tryz.ntmps119 (Nle rfl) fun w A hB => ?_
 refine VC.seq ?_
 have hl := hs.len
 refine VC.region ?_
 refine VO.mb ?_
 refine VO.nil ?_
 refine VC.seq ?_
 refine VC.sr ?_
 refine VO.mw ?_
 refine VO.vv (OpV.len_im rfl Tryz.underlying93 rfl) ?_
 refine VO.vv (OpV.gtr rfl rfl rfl) ?_
 refine VO.nil ?_
 refine VC.cond rfl (fun aH1b => ?_) (fun aH1b => ?_)
 ·have aH1 := aH1b
  try simp only [qq] at aH1
  refine VC.sr ?_
  refine VO.mb ?_
  refine VO.nil ?_
  refine VC.ret ?_
  exact Exists.intro _ (And.intro (RetN.one Tryz.results119 (ResN.v rfl)) (by rw [ordrF_2 (by omega)]))
 ·have aH1 := aH1b
  try simp only [qq] at aH1
  refine VC.skip ?_
  refine VC.seq ?_
  refine VC.sr ?_
  refine VO.mw ?_
  refine VO.vv (OpV.len_im rfl Tryz.underlying93 rfl) ?_
  refine VO.mw ?_
  refine VO.nil ?_
  refine VC.block ?_
  refine VC.loopK [(0, _), (9, _)] ⟨rfl, rfl, trivial⟩ ({q : Nat // q ≤ o.length ∧ ∀ j, j < q → ordrE o j = 0}) (fun (iZ : {q : Nat // q ≤ o.length ∧ ∀ j, j < q → ordrE o j = 0}) => match iZ with | ⟨q, hq, hn⟩ => [(10, avI (q : Int))]) (fun (iZ : {q : Nat // q ≤ o.length ∧ ∀ j, j < q → ordrE o j = 0}) => match iZ with | ⟨q, hq, hn⟩ => []) (fun (iZ : {q : Nat // q ≤ o.length ∧ ∀ j, j < q → ordrE o j = 0}) => match iZ with | ⟨q, hq, hn⟩ => 0) (fun (iZ : {q : Nat // q ≤ o.length ∧ ∀ j, j < q → ordrE o j = 0}) => match iZ with | ⟨q, hq, hn⟩ => o.length - q) ⟨0, Nat.zero_le _, fun j hj => absurd hj (Nat.not_lt_zero j)⟩ (Le.mk hB [] ⟨rfl, rfl, rfl, trivial⟩ rfl rfl (Nat.le_refl _)) ?_
  rintro ⟨q, hq, hn⟩
  show VC _ _ _ _ ⟨[(10, avI (q : Int))] ++ [(0, _), (9, _)], [], 0⟩
  refine VC.sr ?_
  refine VO.vv (OpV.lss rfl rfl rfl) ?_
  refine VO.nil ?_
  refine VC.seq ?_
  refine VC.cond rfl (fun aH2b => ?_) (fun aH2b => ?_)
  ·have aH2 := aH2b
   try simp only [qq] at aH2
   refine VC.skip ?_
   refine VC.seq ?_
   refine VC.block ?_
   refine VC.sr ?_
   refine VO.mw ?_
   refine VO.mb ?_
   refine VO.nil ?_
   refine VC.sr ?_
   refine VO.mw ?_
   refine VO.mw ?_
   refine VO.op rfl (OpE.call rfl hB rfl Tryz.call195 rfl (SpecN.spec (plan_orderFault hs (by omega))) ?_)
   rintro _ rfl
   refine VO.mb ?_
   refine VO.nil ?_
   refine VC.sr ?_
   refine VO.mw ?_
   refine VO.vv (OpV.neq rfl rfl rfl) ?_
   refine VO.nil ?_
   refine VC.cond rfl (fun h2b => ?_) (fun h2b => ?_)
   ·have h2 := h2b
    try simp only [qq] at h2
    refine VC.sr ?_
    refine VO.mw ?_
    refine VO.mb ?_
    refine VO.nil ?_
    refine VC.ret ?_
    exact Exists.intro _ (And.intro (RetN.one Tryz.results119 (ResN.v rfl)) (by rw [ordrF_at (by omega) (by omega) hn rfl h2]))
   ·have h2 := h2b
    try simp only [qq] at h2
    refine VC.skip ?_
    refine VC.region ?_
    refine VO.vv (OpV.add rfl rfl rfl (by unfold fits; omega)) ?_
    refine VO.mw ?_
    refine VO.nil ?_
    exact Exists.intro (⟨q + 1, by omega, lt_succ_cases hn ((by omega))⟩) (And.intro (Le.mk hB [] ⟨rfl, rfl, rfl, trivial⟩ rfl rfl (Nat.le_refl _)) (by first | omega | (show _ < _; omega) | (simp only []; omega)))
  ·have aH2 := aH2b
   try simp only [qq] at aH2
   refine VC.exit ?_
   refine VC.sr ?_
   refine VO.mb ?_
   refine VO.nil ?_
   refine VC.ret ?_
   exact Exists.intro _ (And.intro (RetN.one Tryz.results119 (ResN.v rfl)) (by rw [ordrF_ok (by omega) (fun j hj => hn j (by omega))]))
set_option maxHeartbeats 4000000 in
theorem plan_CheckPaces {p : List PaceS} (hs : SmPc p) :
    SpecN Tryz.prog 187 [avL p] (fun y => y = avI (paceF p)) := by
  refine SpecN.of_VCN Tryz.func187 rfl Tryz.ntmps187 (Nle rfl) fun w A hB => ?_
  refine VC.seq ?_
  have hl := hs.len
  refine VC.region ?_
  refine VO.mb ?_
  refine VO.nil ?_
  refine VC.seq ?_
  refine VC.sr ?_
  refine VO.mw ?_
  refine VO.vv (OpV.len_im rfl Tryz.underlying92 rfl) ?_
  refine VO.vv (OpV.gtr rfl rfl rfl) ?_
  refine VO.nil ?_
  refine VC.cond rfl (fun aH1b => ?_) (fun aH1b => ?_)
  · have aH1 := aH1b
    try simp only [qq] at aH1
    refine VC.sr ?_
    refine VO.mb ?_
    refine VO.nil ?_
    refine VC.ret ?_
    exact Exists.intro _ (And.intro (RetN.one Tryz.results187 (ResN.v rfl)) (by rw [paceF_2 (by omega)]))
  · have aH1 := aH1b
    try simp only [qq] at aH1
    refine VC.skip ?_
    refine VC.seq ?_
    refine VC.sr ?_
    refine VO.mw ?_
    refine VO.vv (OpV.len_im rfl Tryz.underlying92 rfl) ?_
    refine VO.mw ?_
    refine VO.nil ?_
    refine VC.block ?_
    refine VC.loopK [(0, _), (9, _), (10, _)] ⟨rfl, rfl, rfl, trivial⟩ ({q : Nat // q ≤ p.length ∧ ∀ j, j < q → paceE p j = 0}) (fun (iZ : {q : Nat // q ≤ p.length ∧ ∀ j, j < q → paceE p j = 0}) => match iZ with | ⟨q, hq, hn⟩ => [(11, avI (q : Int))]) (fun (iZ : {q : Nat // q ≤ p.length ∧ ∀ j, j < q → paceE p j = 0}) => match iZ with | ⟨q, hq, hn⟩ => []) (fun (iZ : {q : Nat // q ≤ p.length ∧ ∀ j, j < q → paceE p j = 0}) => match iZ with | ⟨q, hq, hn⟩ => 0) (fun (iZ : {q : Nat // q ≤ p.length ∧ ∀ j, j < q → paceE p j = 0}) => match iZ with | ⟨q, hq, hn⟩ => p.length - q) ⟨0, Nat.zero_le _, fun j hj => absurd hj (Nat.not_lt_zero j)⟩ (Le.mk hB [] ⟨rfl, rfl, rfl, rfl, trivial⟩ rfl rfl (Nat.le_refl _)) ?_
    rintro ⟨q, hq, hn⟩
    show VC _ _ _ _ ⟨[(11, avI (q : Int))] ++ [(0, _), (9, _), (10, _)], [], 0⟩
    refine VC.sr ?_
    refine VO.vv (OpV.lss rfl rfl rfl) ?_
    refine VO.nil ?_
    refine VC.seq ?_
    refine VC.cond rfl (fun aH2b => ?_) (fun aH2b => ?_)
    · have aH2 := aH2b
      try simp only [qq] at aH2
      refine VC.skip ?_
      refine VC.seq ?_
      refine VC.block ?_
      refine VC.sr ?_
      refine VO.mw ?_
      refine VO.vv (OpV.indexAddr_E rfl Tryz.underlying92 Tryz.sizeOf115 rfl rfl rfl (by omega)) ?_
      refine VO.vv (OpV.loadK_at rfl hB OutW.no Tryz.isAgg115 Tryz.sizeOf115 rfl rfl) ?_
      refine VO.op rfl (OpE.alloc rfl hB rfl Tryz.zeroValue115 rfl ?_)
      intro g4
      refine VO.mb ?_
      refine VO.op rfl (OpE.store (i := 0) rfl hB rfl Tryz.sizeOf115 rfl rfl rfl rfl rfl rfl (Nle rfl) trivial ?_)
      refine VO.nil ?_
      refine VC.seq ?_
      refine VC.block ?_
      refine VC.sr ?_
      refine VO.vv (OpV.fieldAddrO 0 rfl Tryz.underlying115 rfl rfl Tryz.sizeOf9 rfl) ?_
      refine VO.vv (OpV.load_own (i := 0) rfl hB Tryz.isAgg9 rfl rfl rfl (fun h => h)) ?_
      refine VO.op rfl (OpE.call rfl hB rfl Tryz.call230 rfl (SpecN.spec (kit_IsKey (by have := hs.prod q; omega))) ?_)
      rintro _ rfl
      refine VO.vv (OpV.not rfl rfl) ?_
      refine VO.mb ?_
      refine VO.nil ?_
      refine VC.cond rfl (fun k2b => ?_) (fun k2b => ?_)
      · have k2 := k2b
        try simp only [qq] at k2
        refine VC.sr ?_
        refine VO.mb ?_
        refine VO.nil ?_
        refine VC.ret ?_
        exact Exists.intro _ (And.intro (RetN.one Tryz.results187 (ResN.v rfl)) (by rw [paceF_at (by omega) (by omega) hn (paceE_5 k2) (by decide)]))
      · have k2 := k2b
        try simp only [qq] at k2
        refine VC.seq ?_
        refine VC.draw (fun _ => NoB) hB (by kernel_rfl) ?_
        refine VA.tk (i := 0) rfl (OpV.move (.inl rfl) rfl) ?_
        refine VA.tk (i := 1) rfl (OpV.gtr rfl rfl rfl) ?_
        refine VA.tk (i := 2) rfl (OpV.move (.inl rfl) rfl) ?_
        refine VA.split (t := 24) rfl (fun aK3b => ?_) (fun aK3b => ?_)
        · have aK3 := aK3b
          try simp only [qq] at aK3
          refine VA.takeY (i := 3) rfl (by kernel_rfl) (by kernel_rfl) (by kernel_rfl) rfl rfl rfl rfl aK3b (OpV.fieldAddrO 0 rfl Tryz.underlying115 rfl rfl Tryz.sizeOf9 rfl) ?_
          refine VA.takeY (i := 4) rfl (by kernel_rfl) (by kernel_rfl) (by kernel_rfl) rfl rfl rfl rfl aK3b (OpV.load_own (i := 0) rfl hB Tryz.isAgg9 rfl rfl rfl Wi.not0) ?_
          refine VA.takeY (i := 5) rfl (by kernel_rfl) (by kernel_rfl) (by kernel_rfl) rfl rfl rfl rfl aK3b (OpV.move (.inl rfl) rfl) ?_
          refine VA.takeY (i := 6) rfl (by kernel_rfl) (by kernel_rfl) (by kernel_rfl) rfl rfl rfl rfl aK3b (OpV.move (.inl rfl) rfl) ?_
          refine VA.takeY (i := 7) rfl (by kernel_rfl) (by kernel_rfl) (by kernel_rfl) rfl rfl rfl rfl aK3b (OpV.sub rfl rfl rfl (by unfold fits; omega)) ?_
          refine VA.takeY (i := 8) rfl (by kernel_rfl) (by kernel_rfl) (by kernel_rfl) rfl rfl rfl rfl aK3b (OpV.indexAddr_E rfl Tryz.underlying92 Tryz.sizeOf115 rfl rfl (show ((q : Int) - 1) = ((q - 1 : Nat) : Int) by omega) (by omega)) ?_
          refine VA.takeY (i := 9) rfl (by kernel_rfl) (by kernel_rfl) (by kernel_rfl) rfl rfl rfl rfl aK3b (OpV.fieldAddr_atO 0 rfl Tryz.underlying115 rfl rfl Tryz.sizeOf9 rfl rfl) ?_
          refine VA.takeY (i := 10) rfl (by kernel_rfl) (by kernel_rfl) (by kernel_rfl) rfl rfl rfl rfl aK3b (OpV.load_at rfl hB OutW.wi0 Tryz.isAgg9 rfl rfl) ?_
          refine VA.takeY (i := 11) rfl (by kernel_rfl) (by kernel_rfl) (by kernel_rfl) rfl rfl rfl rfl aK3b (OpV.sleq rfl rfl rfl) ?_
          refine VA.tk (i := 12) rfl (OpV.pickT rfl rfl rfl rfl aK3b) ?_
          refine VA.tk (i := 13) rfl (OpV.move (.inr rfl) rfl) ?_
          refine VA.done (by kernel_rfl) ?_
          refine VC.cond rfl (fun k3b => ?_) (fun k3b => ?_)
          · have k3 := k3b
            try simp only [qq] at k3
            refine VC.sr ?_
            refine VO.mb ?_
            refine VO.nil ?_
            refine VC.ret ?_
            exact Exists.intro _ (And.intro (RetN.one Tryz.results187 (ResN.v rfl)) (by rw [paceF_at (by omega) (by omega) hn (paceE_7 k2 (by omega) (by assumption)) (by decide)]))
          · have k3 := k3b
            try simp only [qq] at k3
            refine VC.sr ?_
            refine VO.vv (OpV.fieldAddrO 1 rfl Tryz.underlying115 rfl rfl Tryz.sizeOf3 rfl) ?_
            refine VO.vv (OpV.load_own (i := 0) rfl hB Tryz.isAgg3 rfl rfl rfl (fun h => h)) ?_
            refine VO.op rfl (OpE.call rfl hB rfl Tryz.call161 rfl (SpecN.spec (kit_Outside)) ?_)
            rintro _ rfl
            refine VO.mb ?_
            refine VO.nil ?_
            refine VC.cond rfl (fun k4b => ?_) (fun k4b => ?_)
            · have k4 := k4b
              try simp only [qq] at k4
              refine VC.sr ?_
              refine VO.mb ?_
              refine VO.nil ?_
              refine VC.ret ?_
              exact Exists.intro _ (And.intro (RetN.one Tryz.results187 (ResN.v rfl)) (by first | rw [paceF_at (by omega) (by omega) hn (paceE_1 k2 (.inr (by assumption)) k4) (by decide)] | rw [paceF_at (by omega) (by omega) hn (paceE_1 k2 (.inl (by omega)) k4) (by decide)]))
            · have k4 := k4b
              try simp only [qq] at k4
              refine VC.skip ?_
              refine VC.sr ?_
              refine VO.vv (OpV.fieldAddrO 2 rfl Tryz.underlying115 rfl rfl Tryz.sizeOf68 rfl) ?_
              refine VO.vv (OpV.load_own (i := 0) rfl hB Tryz.isAgg68 rfl rfl rfl (fun h => h)) ?_
              refine VO.op rfl (OpE.call rfl hB rfl Tryz.call173 rfl (SpecN.spec (line_CheckNeeds (by have := hs.nlen q; omega) (fun j => by have := hs.nkey q j; omega))) ?_)
              rintro _ rfl
              refine VO.mb ?_
              refine VO.nil ?_
              refine VC.sr ?_
              refine VO.mw ?_
              refine VO.vv (OpV.neq rfl rfl rfl) ?_
              refine VO.nil ?_
              refine VC.cond rfl (fun k5b => ?_) (fun k5b => ?_)
              · have k5 := k5b
                try simp only [qq] at k5
                refine VC.sr ?_
                refine VO.mw ?_
                refine VO.mb ?_
                refine VO.nil ?_
                refine VC.ret ?_
                exact Exists.intro _ (And.intro (RetN.one Tryz.results187 (ResN.v rfl)) (by first | rw [paceF_at (by omega) (by omega) hn (paceE_n k2 (.inr (by assumption)) k4) k5] | rw [paceF_at (by omega) (by omega) hn (paceE_n k2 (.inl (by omega)) k4) k5]))
              · have k5 := k5b
                try simp only [qq] at k5
                refine VC.skip ?_
                refine VC.region ?_
                refine VO.vv (OpV.add rfl rfl rfl (by unfold fits; omega)) ?_
                refine VO.mw ?_
                refine VO.nil ?_
                exact Exists.intro (⟨q + 1, by omega, lt_succ_cases hn ((by first | (rw [paceE_n k2 (.inr (by assumption)) k4]; omega) | (rw [paceE_n k2 (.inl (by omega)) k4]; omega)))⟩) (And.intro (Le.mk hB [] ⟨rfl, rfl, rfl, rfl, trivial⟩ rfl rfl (Nat.le_refl _)) (by first | omega | (show _ < _; omega) | (simp only []; omega)))
        · have aK3 := aK3b
          try simp only [qq] at aK3
          refine VA.takeX (i := 3) rfl (by kernel_rfl) (by kernel_rfl) (by kernel_rfl) rfl rfl rfl rfl aK3b ?_
          refine VA.takeX (i := 4) rfl (by kernel_rfl) (by kernel_rfl) (by kernel_rfl) rfl rfl rfl rfl aK3b ?_
          refine VA.takeX (i := 5) rfl (by kernel_rfl) (by kernel_rfl) (by kernel_rfl) rfl rfl rfl rfl aK3b ?_
          refine VA.takeX (i := 6) rfl (by kernel_rfl) (by kernel_rfl) (by kernel_rfl) rfl rfl rfl rfl aK3b ?_
          refine VA.takeX (i := 7) rfl (by kernel_rfl) (by kernel_rfl) (by kernel_rfl) rfl rfl rfl rfl aK3b ?_
          refine VA.takeX (i := 8) rfl (by kernel_rfl) (by kernel_rfl) (by kernel_rfl) rfl rfl rfl rfl aK3b ?_
          refine VA.takeX (i := 9) rfl (by kernel_rfl) (by kernel_rfl) (by kernel_rfl) rfl rfl rfl rfl aK3b ?_
          refine VA.takeX (i := 10) rfl (by kernel_rfl) (by kernel_rfl) (by kernel_rfl) rfl rfl rfl rfl aK3b ?_
          refine VA.takeX (i := 11) rfl (by kernel_rfl) (by kernel_rfl) (by kernel_rfl) rfl rfl rfl rfl aK3b ?_
          refine VA.tk (i := 12) rfl (OpV.pickF rfl rfl rfl rfl aK3b) ?_
          refine VA.tk (i := 13) rfl (OpV.move (.inr rfl) rfl) ?_
          refine VA.done (by kernel_rfl) ?_
          refine VC.condF rfl rfl ?_
          refine VC.sr ?_
          refine VO.vv (OpV.fieldAddrO 1 rfl Tryz.underlying115 rfl rfl Tryz.sizeOf3 rfl) ?_
          refine VO.vv (OpV.load_own (i := 0) rfl hB Tryz.isAgg3 rfl rfl rfl (fun h => h)) ?_
          refine VO.op rfl (OpE.call rfl hB rfl Tryz.call161 rfl (SpecN.spec (kit_Outside)) ?_)
          rintro _ rfl
          refine VO.mb ?_
          refine VO.nil ?_
          refine VC.cond rfl (fun k4b => ?_) (fun k4b => ?_)
          · have k4 := k4b
            try simp only [qq] at k4
            refine VC.sr ?_
            refine VO.mb ?_
            refine VO.nil ?_
            refine VC.ret ?_
            exact Exists.intro _ (And.intro (RetN.one Tryz.results187 (ResN.v rfl)) (by first | rw [paceF_at (by omega) (by omega) hn (paceE_1 k2 (.inr (by assumption)) k4) (by decide)] | rw [paceF_at (by omega) (by omega) hn (paceE_1 k2 (.inl (by omega)) k4) (by decide)]))
          · have k4 := k4b
            try simp only [qq] at k4
            refine VC.skip ?_
            refine VC.sr ?_
            refine VO.vv (OpV.fieldAddrO 2 rfl Tryz.underlying115 rfl rfl Tryz.sizeOf68 rfl) ?_
            refine VO.vv (OpV.load_own (i := 0) rfl hB Tryz.isAgg68 rfl rfl rfl (fun h => h)) ?_
            refine VO.op rfl (OpE.call rfl hB rfl Tryz.call173 rfl (SpecN.spec (line_CheckNeeds (by have := hs.nlen q; omega) (fun j => by have := hs.nkey q j; omega))) ?_)
            rintro _ rfl
            refine VO.mb ?_
            refine VO.nil ?_
            refine VC.sr ?_
            refine VO.mw ?_
            refine VO.vv (OpV.neq rfl rfl rfl) ?_
            refine VO.nil ?_
            refine VC.cond rfl (fun k5b => ?_) (fun k5b => ?_)
            · have k5 := k5b
              try simp only [qq] at k5
              refine VC.sr ?_
              refine VO.mw ?_
              refine VO.mb ?_
              refine VO.nil ?_
              refine VC.ret ?_
              exact Exists.intro _ (And.intro (RetN.one Tryz.results187 (ResN.v rfl)) (by first | rw [paceF_at (by omega) (by omega) hn (paceE_n k2 (.inr (by assumption)) k4) k5] | rw [paceF_at (by omega) (by omega) hn (paceE_n k2 (.inl (by omega)) k4) k5]))
            · have k5 := k5b
              try simp only [qq] at k5
              refine VC.skip ?_
              refine VC.region ?_
              refine VO.vv (OpV.add rfl rfl rfl (by unfold fits; omega)) ?_
              refine VO.mw ?_
              refine VO.nil ?_
              exact Exists.intro (⟨q + 1, by omega, lt_succ_cases hn ((by first | (rw [paceE_n k2 (.inr (by assumption)) k4]; omega) | (rw [paceE_n k2 (.inl (by omega)) k4]; omega)))⟩) (And.intro (Le.mk hB [] ⟨rfl, rfl, rfl, rfl, trivial⟩ rfl rfl (Nat.le_refl _)) (by first | omega | (show _ < _; omega) | (simp only []; omega)))
    · have aH2 := aH2b
      try simp only [qq] at aH2
      refine VC.exit ?_
      refine VC.sr ?_
      refine VO.mb ?_
      refine VO.nil ?_
      refine VC.ret ?_
      exact Exists.intro _ (And.intro (RetN.one Tryz.results187 (ResN.v rfl)) (by rw [paceF_ok (by omega) (fun j hj => hn j (by omega))]))
theorem plan_paceOf1 {x : PaceS} {k : ByteArray}  :
  SpecN Tryz.prog 198 [avT x, avS k] (fun y => y = avI (cmpB x.product k)) := by
 refine SpecN.of_VCN Tryz.func198 rfl Tryz.ntmps198 (Nle rfl) fun w A hB => ?_
 refine VC.sr ?_
 refine VO.op rfl (OpE.box rfl hB rfl rfl rfl ?_)
 intro g2
 refine VO.mb ?_
 refine VO.nil ?_
 refine VC.sr ?_
 refine VO.vv (OpV.fieldAddrO 0 rfl Tryz.underlying115 rfl rfl Tryz.sizeOf9 rfl) ?_
 refine VO.vv (OpV.load_own (i := 0) rfl hB Tryz.isAgg9 rfl rfl rfl (fun h => h)) ?_
 refine VO.mw ?_
 refine VO.op rfl (OpE.call rfl hB rfl Tryz.call95 rfl (SpecN.spec (strings_Compare_S)) ?_)
 rintro _ rfl
 refine VO.mb ?_
 refine VO.nil ?_
 refine VC.ret ?_
 exact Exists.intro _ (And.intro (RetN.one Tryz.results198 (ResN.v rfl)) (rfl))
theorem bsf_pace {xs : List PaceS} {t : ByteArray} {F : FuncId} {cs : List AV} {c : PaceS → Int} {s0 : Nat} (hl : xs.length ≤ 1000000) (hcall : ∀ us w, (callFunc F us).run Tryz.prog w = .ok (.enter F us) w) (hF : ∀ x, Spec Tryz.prog F ([avT x, avS t] ++ cs) (fun y => y = avI (c x))) (hs : s0 ≤ xs.length) (hlo : ∀ j, j < s0 → c (xs.getD j default) < 0) (hhi : ∀ j, s0 ≤ j → j < xs.length → 0 ≤ c (xs.getD j default)) :
  SpecN Tryz.prog 197 [avL xs, avS t, .fn F cs] (fun y => y = .tup [avI (s0 : Int), avB (decide (s0 < xs.length) && decide (c (xs.getD s0 default) = 0))]) := by
 refine SpecN.of_VCN Tryz.func197 rfl Tryz.ntmps197 (Nle rfl) fun w A hB => ?_
 refine VC.sr ?_
 refine VO.mb ?_
 refine VO.mb ?_
 refine VO.nil ?_
 refine VC.sr ?_
 refine VO.mw ?_
 refine VO.vv (OpV.len_im rfl Tryz.underlying92 rfl) ?_
 refine VO.mb ?_
 refine VO.nil ?_
 refine VC.sr ?_
 refine VO.mw ?_
 refine VO.mb ?_
 refine VO.mb ?_
 refine VO.nil ?_
 refine VC.seq ?_
 refine VC.block ?_
 refine VC.loopK [(0, _), (1, _), (2, _), (8, _)] ⟨rfl, rfl, rfl, rfl, trivial⟩ ({z : Nat × Nat // z.1 ≤ s0 ∧ s0 ≤ z.2 ∧ z.2 ≤ xs.length}) (fun (iZ : {z : Nat × Nat // z.1 ≤ s0 ∧ s0 ≤ z.2 ∧ z.2 ≤ xs.length}) => match iZ with | ⟨⟨i, j⟩, h1, h2, h3⟩ => [(9, avI (i : Int)), (10, avI (j : Int))]) (fun (iZ : {z : Nat × Nat // z.1 ≤ s0 ∧ s0 ≤ z.2 ∧ z.2 ≤ xs.length}) => match iZ with | ⟨⟨i, j⟩, h1, h2, h3⟩ => []) (fun (iZ : {z : Nat × Nat // z.1 ≤ s0 ∧ s0 ≤ z.2 ∧ z.2 ≤ xs.length}) => match iZ with | ⟨⟨i, j⟩, h1, h2, h3⟩ => 0) (fun (iZ : {z : Nat × Nat // z.1 ≤ s0 ∧ s0 ≤ z.2 ∧ z.2 ≤ xs.length}) => match iZ with | ⟨⟨i, j⟩, h1, h2, h3⟩ => j - i) ⟨(0, xs.length), Nat.zero_le _, hs, Nat.le_refl _⟩ (Le.mk hB [] ⟨rfl, rfl, rfl, rfl, rfl, rfl, trivial⟩ rfl rfl (Nat.le_refl _)) ?_
 rintro ⟨⟨i, j⟩, h1, h2, h3⟩
 show VC _ _ _ _ ⟨[(9, avI (i : Int)), (10, avI (j : Int))] ++ [(0, _), (1, _), (2, _), (8, _)], [], 0⟩
 simp only at h1 h2 h3
 refine VC.seq ?_
 refine VC.sr ?_
 refine VO.mw ?_
 refine VO.mw ?_
 refine VO.vv (OpV.lss rfl rfl rfl) ?_
 refine VO.nil ?_
 refine VC.cond rfl (fun aH1b => ?_) (fun aH1b => ?_)
 ·have aH1 := aH1b
  try simp only [qq] at aH1
  refine VC.skip ?_
  refine VC.block ?_
  refine VC.sr ?_
  refine VO.mw ?_
  refine VO.mw ?_
  refine VO.vv (OpV.add rfl rfl rfl (by unfold fits; omega)) ?_
  refine VO.vv (OpV.conv rfl Tryz.underlying3 Tryz.underlying282 rfl (IntWalk.u64_in _ (by omega))) ?_
  refine VO.vv (OpV.shr1 rfl rfl rfl rfl (by omega)) ?_
  refine VO.vv (OpV.conv rfl Tryz.underlying282 Tryz.underlying3 rfl (IntWalk.i64_in _ (by omega))) ?_
  refine VO.mb ?_
  refine VO.nil ?_
  refine VC.sr ?_
  refine VO.mw ?_
  refine VO.mw ?_
  refine VO.mw ?_
  refine VO.vv (OpV.indexAddr_E rfl Tryz.underlying92 Tryz.sizeOf115 rfl rfl (Int.toNat_of_nonneg (by omega)).symm (by omega)) ?_
  refine VO.vv (OpV.loadK_at rfl hB OutW.no Tryz.isAgg115 Tryz.sizeOf115 rfl rfl) ?_
  refine VO.mw ?_
  refine VO.op rfl (OpE.callF rfl hB rfl hcall rfl rfl (hF _) ?_)
  rintro _ rfl
  refine VO.vv (OpV.lss rfl rfl rfl) ?_
  refine VO.nil ?_
  refine VC.cond rfl (fun hcb => ?_) (fun hcb => ?_)
  ·have hc := hcb
   try simp only [qq] at hc
   refine VC.region ?_
   refine VO.mw ?_
   refine VO.vv (OpV.add rfl rfl rfl (by unfold fits; omega)) ?_
   refine VO.mb ?_
   refine VO.nil ?_
   exact Exists.intro (⟨((((i : Int) + j) / 2).toNat + 1, j), bsf_lo hhi (by omega) hc, h2, h3⟩) (And.intro (Le.mk hB [] ⟨(by first | rfl | exact congrArg (fun z => some (avI z)) (by omega)), (by first | rfl | exact congrArg (fun z => some (avI z)) (by omega)), rfl, rfl, rfl, rfl, trivial⟩ rfl rfl (Nat.le_refl _)) (by first | omega | (show _ < _; omega) | (simp only []; omega)))
  ·have hc := hcb
   try simp only [qq] at hc
   refine VC.region ?_
   refine VO.mw ?_
   refine VO.mb ?_
   refine VO.nil ?_
   exact Exists.intro (⟨(i, (((i : Int) + j) / 2).toNat), h1, bsf_hi (h := (((i : Int) + j) / 2).toNat) hlo hc, by show _ ≤ xs.length; omega⟩) (And.intro (Le.mk hB [] ⟨(by first | rfl | exact congrArg (fun z => some (avI z)) (by omega)), (by first | rfl | exact congrArg (fun z => some (avI z)) (by omega)), rfl, rfl, rfl, rfl, trivial⟩ rfl rfl (Nat.le_refl _)) (by first | omega | (show _ < _; omega) | (simp only []; omega)))
 ·have aH1 := aH1b
  try simp only [qq] at aH1
  obtain rfl : i = s0 := by omega
  refine VC.exit ?_
  refine VC.sr ?_
  refine VO.mw ?_
  refine VO.mw ?_
  refine VO.mw ?_
  refine VO.vv (OpV.lss rfl rfl rfl) ?_
  refine VO.mw ?_
  refine VO.opG rfl rfl rfl rfl (fun aK2b => ?_) (fun aK2b => ?_)
  ·replace aK2b : _ = true := aK2b
   have aK2 := aK2b
   try simp only [qq] at aK2
   refine OpE.val (W := NoB) (OpV.move (.inl rfl) rfl) rfl ?_
   refine VO.opY rfl rfl rfl rfl aK2b ?_
   refine OpE.val (W := NoB) (OpV.move (.inl rfl) rfl) rfl ?_
   refine VO.opY rfl rfl rfl rfl aK2b ?_
   refine OpE.val (W := NoB) (OpV.move (.inl rfl) rfl) rfl ?_
   refine VO.opY rfl rfl rfl rfl aK2b ?_
   refine OpE.val (W := NoB) (OpV.indexAddr_E rfl Tryz.underlying92 Tryz.sizeOf115 rfl rfl rfl (by omega)) rfl ?_
   refine VO.opY rfl rfl rfl rfl aK2b ?_
   refine OpE.val (W := NoB) (OpV.loadK_at rfl hB OutW.no Tryz.isAgg115 Tryz.sizeOf115 rfl rfl) rfl ?_
   refine VO.opY rfl rfl rfl rfl aK2b ?_
   refine OpE.val (W := NoB) (OpV.move (.inl rfl) rfl) rfl ?_
   refine VO.opY rfl rfl rfl rfl aK2b ?_
   refine OpE.callF rfl hB rfl hcall rfl rfl (hF _) ?_
   rintro _ rfl
   refine VO.opY rfl rfl rfl rfl aK2b ?_
   refine OpE.val (W := NoB) (OpV.eql rfl rfl rfl) rfl ?_
   refine VO.vv (OpV.pickT rfl rfl rfl rfl aK2b) ?_
   refine VO.mb ?_
   refine VO.mb ?_
   refine VO.nil ?_
   refine VC.ret ?_
   exact Exists.intro _ (And.intro (RetN.two Tryz.results197 (ResN.v rfl) (ResN.v rfl)) (by first | (rw [decide_eq_true (show i < xs.length by omega)]; rfl) | (rw [decide_eq_false (show ¬ i < xs.length by omega)]; rfl)))
  ·replace aK2b : _ = false := aK2b
   have aK2 := aK2b
   try simp only [qq] at aK2
   refine VO.opX rfl rfl rfl rfl aK2b ?_
   refine VO.opX rfl rfl rfl rfl aK2b ?_
   refine VO.opX rfl rfl rfl rfl aK2b ?_
   refine VO.opX rfl rfl rfl rfl aK2b ?_
   refine VO.opX rfl rfl rfl rfl aK2b ?_
   refine VO.opX rfl rfl rfl rfl aK2b ?_
   refine VO.opX rfl rfl rfl rfl aK2b ?_
   refine VO.vv (OpV.pickF rfl rfl rfl rfl aK2b) ?_
   refine VO.mb ?_
   refine VO.mb ?_
   refine VO.nil ?_
   refine VC.ret ?_
   exact Exists.intro _ (And.intro (RetN.two Tryz.results197 (ResN.v rfl) (ResN.v rfl)) (by first | (rw [decide_eq_true (show i < xs.length by omega)]; rfl) | (rw [decide_eq_false (show ¬ i < xs.length by omega)]; rfl)))
theorem plan_paceOf {p : List PaceS} {k : ByteArray} (hl : p.length ≤ 1000000) (hr : RiseK PaceS.product p) :
  Spec Tryz.prog 122 [avL p, avS k] (fun y => y = .tup [avPc (paceO p k), avB (hasP p k)]) := by
 refine Spec.of_VC Tryz.func122 rfl Tryz.ntmps122 (Nle rfl) fun w A hB => ?_
 refine VC.sr ?_
 refine VO.op rfl (OpE.alloc rfl hB rfl Tryz.zeroValue115 rfl ?_)
 intro g4
 refine VO.mb ?_
 refine VO.nil ?_
 refine VC.sr ?_
 refine VO.mw ?_
 refine VO.mw ?_
 refine VO.op rfl (OpE.callL rfl hB rfl Tryz.call197 (bsf_pace (c := fun x => cmpB x.product k) (s0 := lowK PaceS.product p k) hl Tryz.call198 (fun x => plan_paceOf1.spec) lowK_le (lowK_cmp hr).1 (lowK_cmp hr).2) (ArgsP.cons (ArgP.ev rfl) (ArgsP.cons (ArgP.ev rfl) (ArgsP.cons (ArgP.fn0 rfl) (ArgsP.nil)))) ?_)
 rintro _ rfl
 refine VO.mw ?_
 refine VO.vv (OpV.extract rfl rfl rfl) ?_
 refine VO.vv (OpV.extract rfl rfl rfl) ?_
 refine VO.le _ (Le.recast (t := 13) (y := avB (hasP p k)) rfl (fun w Z u h => by rw [hasP, ← lowK_any hr, ← cmp_zero]; exact h)) ?_
 have hle := lowK_le (key := PaceS.product) (l := p) (k := k)
 refine VO.mb ?_
 refine VO.mb ?_
 refine VO.nil ?_
 refine VC.seq ?_
 refine VC.sr ?_
 refine VO.mw ?_
 refine VO.vv (OpV.not rfl rfl) ?_
 refine VO.nil ?_
 refine VC.cond rfl (fun h0b => ?_) (fun h0b => ?_)
 ·have h0 := h0b
  try simp only [qq] at h0
  refine VC.sr ?_
  refine VO.vv (OpV.build (pls := #[(0, 1), (1, 1), (2, 1)]) rfl Tryz.zeroValue115 Tryz.underlying115 (fun w => by kernel_rfl) rfl rfl) ?_
  refine VO.le _ (Le.recast (t := 16) (y := avPc default) rfl (fun w Z u h => nil_pace h)) ?_
  refine VO.op rfl (OpE.store (i := 0) rfl hB rfl Tryz.sizeOf115 rfl rfl rfl rfl rfl rfl (Nle rfl) trivial ?_)
  refine VO.mb ?_
  refine VO.nil ?_
  refine VC.ret ?_
  exact Exists.intro _ (And.intro (RetV.two Tryz.results122 ((by first | exact ResV.cellK (i := 0) Tryz.isAgg115 Tryz.sizeOf115 rfl rfl rfl)) (ResV.tmp rfl)) (by rw [h0, paceO, find_none' h0]; rfl))
 ·have h0 := h0b
  try simp only [qq] at h0
  have h1 := (lowK_any hr (k := k)).trans h0
  rw [Bool.and_eq_true, decide_eq_true_eq] at h1
  refine VC.skip ?_
  refine VC.sr ?_
  refine VO.mw ?_
  refine VO.mw ?_
  refine VO.vv (OpV.indexAddr_E rfl Tryz.underlying92 Tryz.sizeOf115 rfl rfl rfl (by omega)) ?_
  refine VO.vv (OpV.loadK_at rfl hB OutW.no Tryz.isAgg115 Tryz.sizeOf115 rfl rfl) ?_
  refine VO.op rfl (OpE.store (i := 0) rfl hB rfl Tryz.sizeOf115 rfl rfl rfl rfl rfl rfl (Nle rfl) trivial ?_)
  refine VO.mb ?_
  refine VO.nil ?_
  refine VC.ret ?_
  exact Exists.intro _ (And.intro (RetV.two Tryz.results122 ((by first | exact ResV.cellK (i := 0) Tryz.isAgg115 Tryz.sizeOf115 rfl rfl rfl)) (ResV.tmp rfl)) (by rw [h0, paceO, lowK_find hr h1.1 h1.2]; rfl))
set_option maxHeartbeats 4000000 in
theorem plan_fault {p : List PaceS} {o : List OrdrS} (hp : SmPc p) (ho : SmOr o) :
  SpecN Tryz.prog 103 [avL p, avL o] (fun y => y = avI (bothF p o)) := by
 refine SpecN.of_VCN Tryz.func103 rfl Tryz.ntmps103 (Nle rfl) fun w A hB => ?_
 refine VC.seq ?_
 have hl := hp.len
 have hl2 := ho.len
 refine VC.region ?_
 refine VO.mb ?_
 refine VO.nil ?_
 refine VC.seq ?_
 refine VC.sr ?_
 refine VO.mw ?_
 refine VO.op rfl (OpE.call rfl hB rfl Tryz.call187 rfl (SpecN.spec (plan_CheckPaces hp)) ?_)
 rintro _ rfl
 refine VO.mb ?_
 refine VO.nil ?_
 refine VC.sr ?_
 refine VO.mw ?_
 refine VO.vv (OpV.neq rfl rfl rfl) ?_
 refine VO.nil ?_
 refine VC.cond rfl (fun h0b => ?_) (fun h0b => ?_)
 ·have h0 := h0b
  try simp only [qq] at h0
  refine VC.sr ?_
  refine VO.mw ?_
  refine VO.mb ?_
  refine VO.nil ?_
  refine VC.ret ?_
  exact Exists.intro _ (And.intro (RetN.one Tryz.results103 (ResN.v rfl)) (by rw [bothF_1 h0]))
 ·have h0 := h0b
  try simp only [qq] at h0
  refine VC.skip ?_
  refine VC.seq ?_
  refine VC.sr ?_
  refine VO.mw ?_
  refine VO.op rfl (OpE.call rfl hB rfl Tryz.call119 rfl (SpecN.spec (plan_CheckOrders ho)) ?_)
  rintro _ rfl
  refine VO.mb ?_
  refine VO.nil ?_
  refine VC.sr ?_
  refine VO.mw ?_
  refine VO.vv (OpV.neq rfl rfl rfl) ?_
  refine VO.nil ?_
  refine VC.cond rfl (fun h1b => ?_) (fun h1b => ?_)
  ·have h1 := h1b
   try simp only [qq] at h1
   refine VC.sr ?_
   refine VO.mw ?_
   refine VO.mb ?_
   refine VO.nil ?_
   refine VC.ret ?_
   exact Exists.intro _ (And.intro (RetN.one Tryz.results103 (ResN.v rfl)) (by rw [bothF_2 (by omega) h1]))
  ·have h1 := h1b
   try simp only [qq] at h1
   refine VC.skip ?_
   refine VC.seq ?_
   refine VC.sr ?_
   refine VO.mw ?_
   refine VO.vv (OpV.len_im rfl Tryz.underlying93 rfl) ?_
   refine VO.mw ?_
   refine VO.nil ?_
   refine VC.block ?_
   refine VC.loopK [(0, _), (21, _), (22, _)] ⟨rfl, rfl, rfl, trivial⟩ ({q : Nat // q ≤ o.length ∧ ∀ j, j < q → hasP p (o.getD j default).product = true}) (fun (iZ : {q : Nat // q ≤ o.length ∧ ∀ j, j < q → hasP p (o.getD j default).product = true}) => match iZ with | ⟨q, hq, hn⟩ => [(23, avI (q : Int))]) (fun (iZ : {q : Nat // q ≤ o.length ∧ ∀ j, j < q → hasP p (o.getD j default).product = true}) => match iZ with | ⟨q, hq, hn⟩ => []) (fun (iZ : {q : Nat // q ≤ o.length ∧ ∀ j, j < q → hasP p (o.getD j default).product = true}) => match iZ with | ⟨q, hq, hn⟩ => 0) (fun (iZ : {q : Nat // q ≤ o.length ∧ ∀ j, j < q → hasP p (o.getD j default).product = true}) => match iZ with | ⟨q, hq, hn⟩ => o.length - q) ⟨0, Nat.zero_le _, fun j hj => absurd hj (Nat.not_lt_zero j)⟩ (Le.mk hB [] ⟨rfl, rfl, rfl, rfl, trivial⟩ rfl rfl (Nat.le_refl _)) ?_
   rintro ⟨q, hq, hn⟩
   show VC _ _ _ _ ⟨[(23, avI (q : Int))] ++ [(0, _), (21, _), (22, _)], [], 0⟩
   refine VC.sr ?_
   refine VO.vv (OpV.lss rfl rfl rfl) ?_
   refine VO.nil ?_
   refine VC.seq ?_
   refine VC.cond rfl (fun aH1b => ?_) (fun aH1b => ?_)
   ·have aH1 := aH1b
    try simp only [qq] at aH1
    refine VC.skip ?_
    refine VC.seq ?_
    refine VC.block ?_
    refine VC.sr ?_
    refine VO.vv (OpV.indexAddr_E rfl Tryz.underlying93 Tryz.sizeOf110 rfl rfl rfl (by omega)) ?_
    refine VO.vv (OpV.loadK_at rfl hB OutW.no Tryz.isAgg110 Tryz.sizeOf110 rfl rfl) ?_
    refine VO.op rfl (OpE.alloc rfl hB rfl Tryz.zeroValue110 rfl ?_)
    intro g8
    refine VO.op rfl (OpE.store (i := 0) rfl hB rfl Tryz.sizeOf110 rfl rfl rfl rfl rfl rfl (Nle rfl) trivial ?_)
    refine VO.nil ?_
    refine VC.sr ?_
    refine VO.mw ?_
    refine VO.vv (OpV.fieldAddrO 1 rfl Tryz.underlying110 rfl rfl Tryz.sizeOf9 rfl) ?_
    refine VO.vv (OpV.load_own (i := 0) rfl hB Tryz.isAgg9 rfl rfl rfl (fun h => h)) ?_
    refine VO.op rfl (OpE.call rfl hB rfl Tryz.call122 rfl (plan_paceOf (k := (o.getD q default).product) (by omega) (pace_rise (pacesOk (by omega)))) ?_)
    rintro _ rfl
    refine VO.mw ?_
    refine VO.vv (OpV.extract rfl rfl rfl) ?_
    refine VO.vv (OpV.extract rfl rfl rfl) ?_
    refine VO.op rfl (OpE.alloc rfl hB rfl Tryz.zeroValue115 rfl ?_)
    intro g9
    refine VO.op rfl (OpE.store (i := 1) rfl hB rfl Tryz.sizeOf115 rfl rfl rfl rfl rfl rfl (Nle rfl) trivial ?_)
    refine VO.mb ?_
    refine VO.nil ?_
    refine VC.sr ?_
    refine VO.mw ?_
    refine VO.vv (OpV.not rfl rfl) ?_
    refine VO.nil ?_
    refine VC.cond rfl (fun h3b => ?_) (fun h3b => ?_)
    ·have h3 := h3b
     try simp only [qq] at h3
     refine VC.sr ?_
     refine VO.mb ?_
     refine VO.nil ?_
     refine VC.ret ?_
     exact Exists.intro _ (And.intro (RetN.one Tryz.results103 (ResN.v rfl)) (by rw [bothF_3 (by omega) (by omega), if_neg (by rw [all_no (d := default) (q := q) (by omega) h3]; simp)]))
    ·have h3 := h3b
     try simp only [qq] at h3
     refine VC.skip ?_
     refine VC.region ?_
     refine VO.vv (OpV.add rfl rfl rfl (by unfold fits; omega)) ?_
     refine VO.mw ?_
     refine VO.nil ?_
     exact Exists.intro (⟨q + 1, by omega, lt_succ_cases hn (h3)⟩) (And.intro (Le.mk hB [] ⟨rfl, rfl, rfl, rfl, trivial⟩ rfl rfl (Nat.le_refl _)) (by first | omega | (show _ < _; omega) | (simp only []; omega)))
   ·have aH1 := aH1b
    try simp only [qq] at aH1
    refine VC.exit ?_
    refine VC.sr ?_
    refine VO.mb ?_
    refine VO.nil ?_
    refine VC.ret ?_
    exact Exists.intro _ (And.intro (RetN.one Tryz.results103 (ResN.v rfl)) (by rw [bothF_3 (by omega) (by omega), if_pos (all_yes (d := default) (fun j hj => hn j (by omega)))]))
set_option maxHeartbeats 4000000 in
theorem plan_scheduleFault {o : List OrdrS} {l : List Int} (ho : o.length ≤ 1000000) (hl : l.length ≤ 1000000) :
  SpecN Tryz.prog 192 [avL o, avInts l] (fun y => y = avI (schF o.length l)) := by
 refine SpecN.of_VCN Tryz.func192 rfl Tryz.ntmps192 (Nle rfl) fun w A hB => ?_
 refine VC.sr ?_
 refine VO.mb ?_
 refine VO.nil ?_
 refine VC.seq ?_
 refine VC.sr ?_
 refine VO.mw ?_
 refine VO.vv (OpV.len_im rfl Tryz.underlying22 rfl) ?_
 refine VO.mw ?_
 refine VO.vv (OpV.len_im rfl Tryz.underlying93 rfl) ?_
 refine VO.vv (OpV.neq rfl rfl rfl) ?_
 refine VO.nil ?_
 refine VC.cond rfl (fun aH1b => ?_) (fun aH1b => ?_)
 ·have aH1 := aH1b
  try simp only [qq] at aH1
  refine VC.sr ?_
  refine VO.mb ?_
  refine VO.nil ?_
  refine VC.ret ?_
  exact Exists.intro _ (And.intro (RetN.one Tryz.results192 (ResN.v rfl)) (by rw [schF_len (by omega)]))
 ·have aH1 := aH1b
  try simp only [qq] at aH1
  refine VC.skip ?_
  refine VC.sr ?_
  refine VO.mw ?_
  refine VO.vv (OpV.len_im rfl Tryz.underlying93 rfl) ?_
  refine VO.op rfl (OpE.make rfl hB rfl Tryz.underlying294 (infoOf Tryz.t4 1 (by kernel_rfl) rfl rfl) (by decide) rfl rfl (n := o.length) rfl rfl (by omega) (usedL_make rfl) ?_)
  intro g15
  rw [usedL_len]
  refine VO.mb ?_
  refine VO.nil ?_
  refine VC.seq ?_
  refine VC.sr ?_
  refine VO.mw ?_
  refine VO.vv (OpV.len_im rfl Tryz.underlying22 rfl) ?_
  refine VO.mw ?_
  refine VO.nil ?_
  refine VC.block ?_
  refine VC.loopK [(0, _), (5, _), (16, _), (17, _)] ⟨rfl, rfl, rfl, rfl, trivial⟩ ({q : Nat // q ≤ l.length ∧ Ord o.length (l.take q)}) (fun (iZ : {q : Nat // q ≤ l.length ∧ Ord o.length (l.take q)}) => match iZ with | ⟨q, hq, hn⟩ => [(18, avI (q : Int))]) (fun (iZ : {q : Nat // q ≤ l.length ∧ Ord o.length (l.take q)}) => match iZ with | ⟨q, hq, hn⟩ => [.box g15 ⟨usedL o.length (l.take q), 4, o.length⟩]) (fun (iZ : {q : Nat // q ≤ l.length ∧ Ord o.length (l.take q)}) => match iZ with | ⟨q, hq, hn⟩ => 0) (fun (iZ : {q : Nat // q ≤ l.length ∧ Ord o.length (l.take q)}) => match iZ with | ⟨q, hq, hn⟩ => l.length - q) ⟨0, Nat.zero_le _, Ord.nil _⟩ (Le.mk hB [0] ⟨rfl, rfl, rfl, rfl, rfl, trivial⟩ rfl rfl (Nat.le_refl _)) ?_
  rintro ⟨q, hq, hn⟩
  show VC _ _ _ _ ⟨[(18, avI (q : Int))] ++ [(0, _), (5, _), (16, _), (17, _)], [.box g15 ⟨usedL o.length (l.take q), 4, o.length⟩], 0⟩
  refine VC.sr ?_
  refine VO.vv (OpV.lss rfl rfl rfl) ?_
  refine VO.nil ?_
  refine VC.seq ?_
  refine VC.cond rfl (fun aH2b => ?_) (fun aH2b => ?_)
  ·have aH2 := aH2b
   try simp only [qq] at aH2
   refine VC.skip ?_
   refine VC.seq ?_
   refine VC.block ?_
   refine VC.sr ?_
   refine VO.vv (OpV.indexAddr_1 rfl Tryz.underlying22 Tryz.sizeOf3 rfl rfl rfl (by omega)) ?_
   refine VO.vv (OpV.load_at rfl hB OutW.no Tryz.isAgg3 rfl rfl) ?_
   refine VO.mb ?_
   refine VO.nil ?_
   refine VC.seq ?_
   refine VC.sr ?_
   refine VO.mw ?_
   refine VO.vv (OpV.lss rfl rfl rfl) ?_
   refine VO.mw ?_
   refine VO.opG rfl rfl rfl rfl (fun aK3b => ?_) (fun aK3b => ?_)
   ·replace aK3b : _ = false := aK3b
    have aK3 := aK3b
    try simp only [qq] at aK3
    refine OpE.val (W := NoB) (OpV.move (.inl rfl) rfl) rfl ?_
    refine VO.opY rfl rfl rfl rfl aK3b ?_
    refine OpE.val (W := NoB) (OpV.move (.inl rfl) rfl) rfl ?_
    refine VO.opY rfl rfl rfl rfl aK3b ?_
    refine OpE.val (W := NoB) (OpV.len_im rfl Tryz.underlying93 rfl) rfl ?_
    refine VO.opY rfl rfl rfl rfl aK3b ?_
    refine OpE.val (W := NoB) (OpV.geq rfl rfl rfl) rfl ?_
    refine VO.vv (OpV.pickF rfl rfl rfl rfl aK3b) ?_
    refine VO.mw ?_
    refine VO.opG rfl rfl rfl rfl (fun aK4b => ?_) (fun aK4b => ?_)
    ·replace aK4b : _ = false := aK4b
     have aK4 := aK4b
     try simp only [qq] at aK4
     refine OpE.val (W := NoB) (OpV.move (.inl rfl) rfl) rfl ?_
     refine VO.opY rfl rfl rfl rfl aK4b ?_
     refine OpE.val (W := NoB) (OpV.move (.inl rfl) rfl) rfl ?_
     refine VO.opY rfl rfl rfl rfl aK4b ?_
     refine OpE.val (W := NoB) (OpV.indexAddr_o rfl Tryz.underlying294 Tryz.sizeOf4 rfl rfl (show l.getD q 0 = (((l.getD q 0).toNat : Nat) : Int) by omega) (by omega)) rfl ?_
     refine VO.opY rfl rfl rfl rfl aK4b ?_
     refine OpE.val (W := NoB) (OpV.load_own (i := 0) rfl hB Tryz.isAgg4 rfl rfl (usedL_get (q := (l.getD q 0).toNat) (by omega)) (fun h => h)) rfl ?_
     refine VO.le _ (Le.recast (t := 34) (y := avB (decide (l.getD q 0 ∈ l.take q))) rfl (fun w Z u h => by rw [Int.toNat_of_nonneg (by omega)] at h; exact h)) ?_
     refine VO.vv (OpV.pickF rfl rfl rfl rfl aK4b) ?_
     refine VO.nil ?_
     refine VC.cond rfl (fun hxb => ?_) (fun hxb => ?_)
     ·have hx := hxb
      try simp only [qq] at hx
      refine VC.sr ?_
      refine VO.mb ?_
      refine VO.nil ?_
      refine VC.ret ?_
      exact Exists.intro _ (And.intro (RetN.one Tryz.results192 (ResN.v rfl)) (by first | rw [schF_out (q := q) (by omega) (by omega)] | rw [schF_twice (q := q) (by omega) (by assumption)]))
     ·have hx := hxb
      try simp only [qq] at hx
      have hx' : l.getD q 0 ∉ l.take q := by assumption
      refine VC.skip ?_
      refine VC.region ?_
      refine VO.mw ?_
      refine VO.mw ?_
      refine VO.vv (OpV.indexAddr_o rfl Tryz.underlying294 Tryz.sizeOf4 rfl rfl (show l.getD q 0 = (((l.getD q 0).toNat : Nat) : Int) by omega) (by omega)) ?_
      refine VO.op rfl (OpE.store1 (i := 0) rfl hB rfl Tryz.sizeOf4 rfl rfl rfl rfl rfl rfl (by rw [usedL_len]; omega) (usedL_take (by omega) (by omega) (by omega)) trivial ?_)
      refine VO.nil ?_
      refine VC.region ?_
      refine VO.vv (OpV.add rfl rfl rfl (by unfold fits; omega)) ?_
      refine VO.mw ?_
      refine VO.nil ?_
      exact Exists.intro (⟨q + 1, by omega, Ord.take hn (by omega) (by omega) (by omega) hx'⟩) (And.intro (Le.mk hB [0] ⟨rfl, rfl, rfl, rfl, rfl, trivial⟩ rfl rfl (Nat.le_refl _)) (by first | omega | (show _ < _; omega) | (simp only []; omega)))
    ·replace aK4b : _ = true := aK4b
     have aK4 := aK4b
     try simp only [qq] at aK4
     refine VO.opX rfl rfl rfl rfl aK4b ?_
     refine VO.opX rfl rfl rfl rfl aK4b ?_
     refine VO.opX rfl rfl rfl rfl aK4b ?_
     refine VO.vv (OpV.pickT rfl rfl rfl rfl aK4b) ?_
     refine VO.nil ?_
     refine VC.condT rfl rfl ?_
     refine VC.sr ?_
     refine VO.mb ?_
     refine VO.nil ?_
     refine VC.ret ?_
     exact Exists.intro _ (And.intro (RetN.one Tryz.results192 (ResN.v rfl)) (by first | rw [schF_out (q := q) (by omega) (by omega)] | rw [schF_twice (q := q) (by omega) (by assumption)]))
   ·replace aK3b : _ = true := aK3b
    have aK3 := aK3b
    try simp only [qq] at aK3
    refine VO.opX rfl rfl rfl rfl aK3b ?_
    refine VO.opX rfl rfl rfl rfl aK3b ?_
    refine VO.opX rfl rfl rfl rfl aK3b ?_
    refine VO.vv (OpV.pickT rfl rfl rfl rfl aK3b) ?_
    refine VO.mw ?_
    refine VO.opX rfl rfl rfl rfl rfl ?_
    refine VO.opX rfl rfl rfl rfl rfl ?_
    refine VO.opX rfl rfl rfl rfl rfl ?_
    refine VO.opX rfl rfl rfl rfl rfl ?_
    refine VO.vv (OpV.pickT rfl rfl rfl rfl rfl) ?_
    refine VO.nil ?_
    refine VC.condT rfl rfl ?_
    refine VC.sr ?_
    refine VO.mb ?_
    refine VO.nil ?_
    refine VC.ret ?_
    exact Exists.intro _ (And.intro (RetN.one Tryz.results192 (ResN.v rfl)) (by first | rw [schF_out (q := q) (by omega) (by omega)] | rw [schF_twice (q := q) (by omega) (by assumption)]))
  ·have aH2 := aH2b
   try simp only [qq] at aH2
   refine VC.exit ?_
   refine VC.sr ?_
   refine VO.mb ?_
   refine VO.nil ?_
   refine VC.ret ?_
   exact Exists.intro _ (And.intro (RetN.one Tryz.results192 (ResN.v rfl)) (by rw [schF_ok (by omega) (by rwa [List.take_of_length_le (by omega)] at hn)]))
theorem plan_numbersFault {s e : Int}  :
  SpecN Tryz.prog 104 [avI s, avI e] (fun y => y = avI (startF s e)) := by
 refine SpecN.of_VCN Tryz.func104 rfl Tryz.ntmps104 (Nle rfl) fun w A hB => ?_
 refine VC.sr ?_
 refine VO.mb ?_
 refine VO.nil ?_
 refine VC.seq ?_
 refine VC.sr ?_
 refine VO.mw ?_
 refine VO.op rfl (OpE.call rfl hB rfl Tryz.call188 rfl (SpecN.spec (kit_IsMoment)) ?_)
 rintro _ rfl
 refine VO.vv (OpV.not rfl rfl) ?_
 refine VO.mw ?_
 refine VO.opG rfl rfl rfl rfl (fun aK1b => ?_) (fun aK1b => ?_)
 ·replace aK1b : _ = false := aK1b
  have aK1 := aK1b
  try simp only [qq] at aK1
  refine OpE.val (W := NoB) (OpV.move (.inl rfl) rfl) rfl ?_
  refine VO.opY rfl rfl rfl rfl aK1b ?_
  refine OpE.call rfl hB rfl Tryz.call161 rfl (SpecN.spec (kit_Outside)) ?_
  rintro _ rfl
  refine VO.vv (OpV.pickF rfl rfl rfl rfl aK1b) ?_
  refine VO.nil ?_
  refine VC.cond rfl (fun aH2b => ?_) (fun aH2b => ?_)
  ·have aH2 := aH2b
   try simp only [qq] at aH2
   refine VC.sr ?_
   refine VO.mb ?_
   refine VO.nil ?_
   refine VC.ret ?_
   exact Exists.intro _ (And.intro (RetN.one Tryz.results104 (ResN.v rfl)) (by rw [startF, if_pos (by first | exact or2a (by assumption) | exact or2b (by assumption))]))
  ·have aH2 := aH2b
   try simp only [qq] at aH2
   refine VC.skip ?_
   refine VC.sr ?_
   refine VO.mb ?_
   refine VO.nil ?_
   refine VC.ret ?_
   exact Exists.intro _ (And.intro (RetN.one Tryz.results104 (ResN.v rfl)) (by rw [startF, if_neg (by rw [or2f (by assumption) (by assumption)]; simp)]))
 ·replace aK1b : _ = true := aK1b
  have aK1 := aK1b
  try simp only [qq] at aK1
  refine VO.opX rfl rfl rfl rfl aK1b ?_
  refine VO.vv (OpV.pickT rfl rfl rfl rfl aK1b) ?_
  refine VO.nil ?_
  refine VC.condT rfl rfl ?_
  refine VC.sr ?_
  refine VO.mb ?_
  refine VO.nil ?_
  refine VC.ret ?_
  exact Exists.intro _ (And.intro (RetN.one Tryz.results104 (ResN.v rfl)) (by rw [startF, if_pos (by first | exact or2a (by assumption) | exact or2b (by assumption))]))
theorem slices_IndexFunc_need {xs : List NeedS} {F : FuncId} {cs : List AV} {p : NeedS → Bool} (hl : xs.length ≤ 1000000000) (hcall : ∀ us w, (callFunc F us).run Tryz.prog w = .ok (.enter F us) w) (hF : ∀ x, Spec Tryz.prog F ([avT x] ++ cs) (fun y => y = avB (p x))) :
  SpecN Tryz.prog 323 [avL xs, .fn F cs] (fun y => y = avI (fidx p xs)) := by
 refine SpecN.of_VCN Tryz.func323 rfl Tryz.ntmps323 (Nle rfl) fun w A hB => ?_
 refine VC.sr ?_
 refine VO.mb ?_
 refine VO.nil ?_
 refine VC.seq ?_
 refine VC.sr ?_
 refine VO.mw ?_
 refine VO.vv (OpV.len_im rfl Tryz.underlying68 rfl) ?_
 refine VO.mw ?_
 refine VO.nil ?_
 refine VC.block ?_
 refine VC.loopK [(0, _), (1, _), (7, _)] ⟨rfl, rfl, rfl, trivial⟩ ({q : Nat // q ≤ xs.length ∧ ∀ j, j < q → p (xs.getD j default) = false}) (fun (iZ : {q : Nat // q ≤ xs.length ∧ ∀ j, j < q → p (xs.getD j default) = false}) => match iZ with | ⟨q, hq, hn⟩ => [(8, avI (q : Int))]) (fun (iZ : {q : Nat // q ≤ xs.length ∧ ∀ j, j < q → p (xs.getD j default) = false}) => match iZ with | ⟨q, hq, hn⟩ => []) (fun (iZ : {q : Nat // q ≤ xs.length ∧ ∀ j, j < q → p (xs.getD j default) = false}) => match iZ with | ⟨q, hq, hn⟩ => 0) (fun (iZ : {q : Nat // q ≤ xs.length ∧ ∀ j, j < q → p (xs.getD j default) = false}) => match iZ with | ⟨q, hq, hn⟩ => xs.length - q) ⟨0, Nat.zero_le _, fun j hj => absurd hj (Nat.not_lt_zero j)⟩ (Le.mk hB [] ⟨rfl, rfl, rfl, rfl, trivial⟩ rfl rfl (Nat.le_refl _)) ?_
 rintro ⟨q, hq, hn⟩
 show VC _ _ _ _ ⟨[(8, avI (q : Int))] ++ [(0, _), (1, _), (7, _)], [], 0⟩
 refine VC.sr ?_
 refine VO.vv (OpV.lss rfl rfl rfl) ?_
 refine VO.nil ?_
 refine VC.seq ?_
 refine VC.cond rfl (fun aH1b => ?_) (fun aH1b => ?_)
 ·have aH1 := aH1b
  try simp only [qq] at aH1
  refine VC.skip ?_
  refine VC.seq ?_
  refine VC.block ?_
  refine VC.sr ?_
  refine VO.mw ?_
  refine VO.mb ?_
  refine VO.nil ?_
  refine VC.sr ?_
  refine VO.mw ?_
  refine VO.mw ?_
  refine VO.mw ?_
  refine VO.vv (OpV.indexAddr_E rfl Tryz.underlying68 Tryz.sizeOf90 rfl rfl rfl (by omega)) ?_
  refine VO.vv (OpV.loadK_at rfl hB OutW.no Tryz.isAgg90 Tryz.sizeOf90 rfl rfl) ?_
  refine VO.op rfl (OpE.callF rfl hB rfl hcall rfl rfl (hF _) ?_)
  rintro _ rfl
  refine VO.nil ?_
  refine VC.cond rfl (fun aH2b => ?_) (fun aH2b => ?_)
  ·have aH2 := aH2b
   try simp only [qq] at aH2
   refine VC.sr ?_
   refine VO.mw ?_
   refine VO.mb ?_
   refine VO.nil ?_
   refine VC.ret ?_
   exact Exists.intro _ (And.intro (RetN.one Tryz.results323 (ResN.v rfl)) (by first | (rw [fidx_found (d := default) (q := q) (by omega) hn (by assumption)]) | (rw [fidx_none (d := default) (fun j hj => hn j (by omega))])))
  ·have aH2 := aH2b
   try simp only [qq] at aH2
   refine VC.skip ?_
   refine VC.region ?_
   refine VO.vv (OpV.add rfl rfl rfl (by unfold fits; omega)) ?_
   refine VO.mw ?_
   refine VO.nil ?_
   exact Exists.intro (⟨q + 1, by omega, lt_succ_cases hn ((by assumption))⟩) (And.intro (Le.mk hB [] ⟨rfl, rfl, rfl, rfl, trivial⟩ rfl rfl (Nat.le_refl _)) (by first | omega | (show _ < _; omega) | (simp only []; omega)))
 ·have aH1 := aH1b
  try simp only [qq] at aH1
  refine VC.exit ?_
  refine VC.sr ?_
  refine VO.mb ?_
  refine VO.nil ?_
  refine VC.ret ?_
  exact Exists.intro _ (And.intro (RetN.one Tryz.results323 (ResN.v rfl)) (by first | (rw [fidx_found (d := default) (q := q) (by omega) hn (by assumption)]) | (rw [fidx_none (d := default) (fun j hj => hn j (by omega))])))
theorem slices_ContainsFunc_need {xs : List NeedS} {F : FuncId} {cs : List AV} {p : NeedS → Bool} (hl : xs.length ≤ 1000000000) (hcall : ∀ us w, (callFunc F us).run Tryz.prog w = .ok (.enter F us) w) (hF : ∀ x, Spec Tryz.prog F ([avT x] ++ cs) (fun y => y = avB (p x))) :
  SpecN Tryz.prog 259 [avL xs, .fn F cs] (fun y => y = avB (xs.any p)) := by
 refine SpecN.of_VCN Tryz.func259 rfl Tryz.ntmps259 (Nle rfl) fun w A hB => ?_
 refine VC.sr ?_
 refine VO.mb ?_
 refine VO.nil ?_
 refine VC.sr ?_
 refine VO.mw ?_
 refine VO.mw ?_
 refine VO.op rfl (OpE.call rfl hB rfl Tryz.call323 rfl (SpecN.spec (slices_IndexFunc_need hl hcall hF)) ?_)
 rintro _ rfl
 refine VO.vv (OpV.geq rfl rfl rfl) ?_
 refine VO.mb ?_
 refine VO.nil ?_
 refine VC.ret ?_
 exact Exists.intro _ (And.intro (RetN.one Tryz.results259 (ResN.v rfl)) (by rw [← fidx_any]))
theorem plan_changeover1 {x o : NeedS}  :
  SpecN Tryz.prog 260 [avT o, .at_ 2 (Sxc.cell x)] (fun y => y = avB (sEq o.key x.key)) := by
 refine SpecN.of_VCN Tryz.func260 rfl Tryz.ntmps260 (Nle rfl) fun w A hB => ?_
 refine VC.sr ?_
 refine VO.op rfl (OpE.box rfl hB rfl rfl rfl ?_)
 intro g2
 refine VO.mb ?_
 refine VO.nil ?_
 refine VC.sr ?_
 refine VO.vv (OpV.fieldAddrO 0 rfl Tryz.underlying90 rfl rfl Tryz.sizeOf9 rfl) ?_
 refine VO.vv (OpV.load_own (i := 0) rfl hB Tryz.isAgg9 rfl rfl rfl (fun h => h)) ?_
 refine VO.vv (OpV.fieldAddr_atO 0 rfl Tryz.underlying90 rfl rfl Tryz.sizeOf9 rfl rfl) ?_
 refine VO.vv (OpV.load_at rfl hB OutW.no Tryz.isAgg9 rfl rfl) ?_
 refine VO.vv (OpV.seql rfl rfl rfl) ?_
 refine VO.mb ?_
 refine VO.nil ?_
 refine VC.ret ?_
 exact Exists.intro _ (And.intro (RetN.one Tryz.results260 (ResN.v rfl)) (rfl))
set_option maxHeartbeats 4000000 in
theorem plan_changeover {a b : PaceS} {each : Int} (ha : a.needs.length ≤ 1000000) (hb : b.needs.length ≤ 1000000) (he : 0 ≤ each ∧ each ≤ 10000000) :
  SpecN Tryz.prog 189 [avPc a, avPc b, avI each] (fun y => y = avI (chgI a b each)) := by
 refine SpecN.of_VCN Tryz.func189 rfl Tryz.ntmps189 (Nle rfl) fun w A hB => ?_
 refine VC.sr ?_
 refine VO.op rfl (OpE.box rfl hB rfl rfl rfl ?_)
 intro g3
 refine VO.op rfl (OpE.box rfl hB rfl rfl rfl ?_)
 intro g4
 refine VO.mb ?_
 refine VO.nil ?_
 refine VC.sr ?_
 refine VO.mb ?_
 refine VO.nil ?_
 refine VC.seq ?_
 refine VC.sr ?_
 refine VO.vv (OpV.fieldAddrO 2 rfl Tryz.underlying115 rfl rfl Tryz.sizeOf68 rfl) ?_
 refine VO.vv (OpV.load_own (i := 1) rfl hB Tryz.isAgg68 rfl rfl rfl (fun h => h)) ?_
 refine VO.vv (OpV.len_im rfl Tryz.underlying68 rfl) ?_
 refine VO.mw ?_
 refine VO.nil ?_
 refine VC.block ?_
 refine VC.loopK [(2, _), (3, _), (11, _), (12, _)] ⟨rfl, rfl, rfl, rfl, trivial⟩ ({q : Nat // q ≤ b.needs.length}) (fun (iZ : {q : Nat // q ≤ b.needs.length}) => match iZ with | ⟨q, hq⟩ => [(7, avI (each * (chgN a.needs b.needs q : Int))), (13, avI (q : Int))]) (fun (iZ : {q : Nat // q ≤ b.needs.length}) => match iZ with | ⟨q, hq⟩ => [boxPc g3 a 115]) (fun (iZ : {q : Nat // q ≤ b.needs.length}) => match iZ with | ⟨q, hq⟩ => 0) (fun (iZ : {q : Nat // q ≤ b.needs.length}) => match iZ with | ⟨q, hq⟩ => b.needs.length - q) ⟨0, Nat.zero_le _⟩ (Le.mk hB [0] ⟨(by rw [show chgN a.needs b.needs 0 = 0 by simp [chgN]]; simp; rfl), rfl, rfl, rfl, rfl, rfl, trivial⟩ rfl rfl (Nat.le_refl _)) ?_
 rintro ⟨q, hq⟩
 show VC _ _ _ _ ⟨[(7, avI (each * (chgN a.needs b.needs q : Int))), (13, avI (q : Int))] ++ [(2, _), (3, _), (11, _), (12, _)], [boxPc g3 a 115], 0⟩
 have hcn := chgN_le a.needs b.needs q
 have hcm := mul_bd he.1 he.2 (by omega : (0 : Int) ≤ (chgN a.needs b.needs q : Int)) (by omega : _ ≤ (1000000 : Int))
 refine VC.sr ?_
 refine VO.vv (OpV.lss rfl rfl rfl) ?_
 refine VO.nil ?_
 refine VC.seq ?_
 refine VC.cond rfl (fun aH1b => ?_) (fun aH1b => ?_)
 ·have aH1 := aH1b
  try simp only [qq] at aH1
  refine VC.skip ?_
  refine VC.seq ?_
  refine VC.block ?_
  refine VC.sr ?_
  refine VO.vv (OpV.indexAddr_E rfl Tryz.underlying68 Tryz.sizeOf90 rfl rfl rfl (by omega)) ?_
  refine VO.vv (OpV.loadK_at rfl hB OutW.no Tryz.isAgg90 Tryz.sizeOf90 rfl rfl) ?_
  refine VO.op rfl (OpE.alloc rfl hB rfl Tryz.zeroValue90 rfl ?_)
  intro g9
  refine VO.op rfl (OpE.store (i := 1) rfl hB rfl Tryz.sizeOf90 rfl rfl rfl rfl rfl rfl (Nle rfl) trivial ?_)
  refine VO.nil ?_
  refine VC.sr ?_
  refine VO.vv (OpV.fieldAddrO 2 rfl Tryz.underlying115 rfl rfl Tryz.sizeOf68 rfl) ?_
  refine VO.vv (OpV.load_own (i := 0) rfl hB Tryz.isAgg68 rfl rfl rfl (fun h => h)) ?_
  refine VO.vv (OpV.makeFunc1 rfl rfl) ?_
  refine VO.op rfl (OpE.callL rfl hB rfl Tryz.call259 (slices_ContainsFunc_need (p := fun o => sEq o.key (b.needs.getD q default).key) (by omega) Tryz.call260 (fun x => plan_changeover1.spec)) (ArgsP.cons (ArgP.ev rfl) (ArgsP.cons (ArgP.fn1 (i := 1) (m := 2) (f := Sxc.cell (b.needs.getD q default)) rfl rfl (Nle rfl) (lt2 rfl rfl)) (ArgsP.nil))) ?_)
  rintro _ rfl
  refine VO.vv (OpV.not rfl rfl) ?_
  refine VO.nil ?_
  refine VC.cond rfl (fun hxb => ?_) (fun hxb => ?_)
  ·have hx := hxb
   try simp only [qq] at hx
   refine VC.region ?_
   refine VO.mw ?_
   refine VO.mw ?_
   refine VO.vv (OpV.add rfl rfl rfl (by unfold fits; omega)) ?_
   refine VO.mb ?_
   refine VO.nil ?_
   refine VC.region ?_
   refine VO.vv (OpV.add rfl rfl rfl (by unfold fits; omega)) ?_
   refine VO.mw ?_
   refine VO.nil ?_
   exact Exists.intro (⟨q + 1, by omega⟩) (And.intro (Le.mk hB [0] ⟨(by first | (rw [chgN_t (by omega) hx, Int.natCast_add, Int.mul_add, Int.natCast_one, Int.mul_one]; rfl) | (rw [chgN_f (by omega) hx]; rfl)), rfl, rfl, rfl, rfl, rfl, trivial⟩ rfl rfl (Nat.le_refl _)) (by first | omega | (show _ < _; omega) | (simp only []; omega)))
  ·have hx := hxb
   try simp only [qq] at hx
   refine VC.skip ?_
   refine VC.region ?_
   refine VO.vv (OpV.add rfl rfl rfl (by unfold fits; omega)) ?_
   refine VO.mw ?_
   refine VO.nil ?_
   exact Exists.intro (⟨q + 1, by omega⟩) (And.intro (Le.mk hB [0] ⟨(by first | (rw [chgN_t (by omega) hx, Int.natCast_add, Int.mul_add, Int.natCast_one, Int.mul_one]; rfl) | (rw [chgN_f (by omega) hx]; rfl)), rfl, rfl, rfl, rfl, rfl, trivial⟩ rfl rfl (Nat.le_refl _)) (by first | omega | (show _ < _; omega) | (simp only []; omega)))
 ·have aH1 := aH1b
  try simp only [qq] at aH1
  refine VC.exit ?_
  refine VC.seq ?_
  have hqe : q = b.needs.length := by omega
  rw [hqe]
  refine VC.region ?_
  refine VO.mw ?_
  refine VO.mb ?_
  refine VO.nil ?_
  refine VC.ret ?_
  exact Exists.intro _ (And.intro (RetN.one Tryz.results189 (ResN.v rfl)) (rfl))
end
section
section
variable {P : Program} {B : Bs} {s : St'}
theorem Le.cellRow {i k j g n sz : Nat} {o' : Own'} {u : Value} {cs : List AV} {ty : TypeId} {y : AV} (hB : B.Ok) (hi : s.hp[i]? = some (.box g o')) (hj : o'.cs[j]? = some (.v u)) (hk : s.hp[k]? = some (.row u n sz cs ty)) (hik : i < k) (hy : ∀ w Z u, Rep w Z (.im n sz fun j => cs.getD j .any) u → Rep w Z y u) :
  Le B s ⟨s.sl, (s.hp.eraseIdx k).set i (.box g ⟨o'.cs.set j y, o'.ty, o'.tot⟩), s.k⟩ := fun a w hr => by
 have hr1 := hr.erase k
 have hi1 : (s.hp.eraseIdx k)[i]? = some (.box g o') := by rw [List.getElem?_eraseIdx, if_pos hik]; exact hi
 have hz : ∀ b, Zn B (s.hp.eraseIdx k) w b → Zn B ((s.hp.eraseIdx k).set i (.box g ⟨o'.cs.set j y, o'.ty, o'.tot⟩)) w b := fun b hb => ⟨hb.1, fun p hp hpb => by
  rcases List.mem_or_eq_of_mem_set hp with h | h
  ·exact hb.2.1 p h hpb
  ·subst h; exact hb.2.1 _ (List.mem_of_getElem? hi1) hpb, hb.2.2⟩
 have hz0 : ∀ b, Zn B s.hp w b → Zn B (s.hp.eraseIdx k) w b := fun b hb => ⟨hb.1, fun p hp => hb.2.1 p ((List.eraseIdx_sublist s.hp k).subset hp), hb.2.2⟩
 refine hr1.set hB hi1 (w' := w) (Chg.refl _ w) (.inl rfl) ?_
 obtain ⟨c, h1, h2, h3, h4⟩ := hr1.blocks _ (List.mem_of_getElem? hi1)
 refine ⟨c, h1, h2, by simpa using h3, fun q hq => ?_⟩
 have hq' : q < o'.cs.length := by simpa using hq
 obtain ⟨hjl, hje⟩ := List.getElem?_eq_some_iff.1 hj
 obtain ⟨v, k1, k2⟩ := h4 q hq'
 refine ⟨v, k1, ?_⟩
 rw [List.getElem_set]
 split
 ·rename_i e
  subst e
  rw [hje] at k2
  rw [k2.eq_v]
  exact hy _ _ _ (hr.repRow hk (fun b hb => hz b (hz0 b hb)) fun g' hg hl => hz g' (hr.erased hB hk hg))
 ·exact k2.keep fun b hb _ => ⟨rfl, hz b hb⟩
end
end
section
abbrev boxSch (g : Nat) (o : List OrdrS) (b1 : Option Addr) (q c1 : Nat) (b2 : Option Addr) (c2 : Nat) (ty : TypeId) : Ent := .box g ⟨[avL o, .v (.slice b1 q c1), .v (.slice b2 q c2)], ty, 3⟩
set_option maxHeartbeats 8000000 in
theorem plan_newScheduler {p : List PaceS} {o : List OrdrS} {each : Int} (hp : SmPc p) (hpok : PacesOk p) (hook : OrdrsB o) (hhas : ∀ j, j < o.length → hasP p (o.getD j default).product = true) (he : 0 ≤ each ∧ each ≤ 10000000) :
  Spec Tryz.prog 105 [avL p, avL o, avI each] (fun y => y = .at_ 3 (schC p o each)) := by
 refine Spec.of_VC Tryz.func105 rfl Tryz.ntmps105 (Nle rfl) fun w A hB => ?_
 have hnew : True := trivial
 refine VC.seq ?_
 have hl := hp.len
 have hl2 := hook.len
 refine VC.region ?_
 refine VO.mb ?_
 refine VO.nil ?_
 refine VC.sr ?_
 refine VO.mw ?_
 refine VO.vv (OpV.build (pls := #[(0, 1), (1, 1), (2, 1)]) rfl Tryz.zeroValue292 Tryz.underlying292 (fun w => by kernel_rfl) rfl rfl) ?_
 refine VO.op rfl (OpE.box rfl hB rfl rfl rfl ?_)
 intro g19
 refine VO.mb ?_
 refine VO.nil ?_
 refine VC.seq ?_
 refine VC.seq ?_
 refine VC.le _ (Le.nilRow 1 3) ?_
 refine VC.le _ (Le.nilRow 1 22) ?_
 refine VC.region ?_
 refine VO.mw ?_
 refine VO.vv (OpV.len_im rfl Tryz.underlying93 rfl) ?_
 refine VO.mw ?_
 refine VO.nil ?_
 refine VC.block ?_
 refine VC.loopK [(0, _), (1, _), (2, _), (7, _), (20, _), (21, _)] ⟨rfl, rfl, rfl, rfl, rfl, rfl, trivial⟩ ({z : (Option Addr × Nat) × (Option Addr × Nat) × Nat // z.2.2 ≤ o.length}) (fun (iZ : {z : (Option Addr × Nat) × (Option Addr × Nat) × Nat // z.2.2 ≤ o.length}) => match iZ with | ⟨⟨⟨b1, c1⟩, ⟨b2, c2⟩, q⟩, hq⟩ => [(22, avI (q : Int))]) (fun (iZ : {z : (Option Addr × Nat) × (Option Addr × Nat) × Nat // z.2.2 ≤ o.length}) => match iZ with | ⟨⟨⟨b1, c1⟩, ⟨b2, c2⟩, q⟩, hq⟩ => [boxSch g19 o b1 q c1 b2 c2 292, .row (.slice b1 q c1) q 1 (intsL ((o.take q).map (longO p))) 3, .row (.slice b2 q c2) q 1 (listM ((o.take q).map fun x => o.map (turnO p each x))) 22]) (fun (iZ : {z : (Option Addr × Nat) × (Option Addr × Nat) × Nat // z.2.2 ≤ o.length}) => match iZ with | ⟨⟨⟨b1, c1⟩, ⟨b2, c2⟩, q⟩, hq⟩ => 0) (fun (iZ : {z : (Option Addr × Nat) × (Option Addr × Nat) × Nat // z.2.2 ≤ o.length}) => match iZ with | ⟨⟨⟨b1, c1⟩, ⟨b2, c2⟩, q⟩, hq⟩ => o.length - q) ⟨((none, 0), (none, 0), 0), Nat.zero_le _⟩ (Le.mk hB [0, 1, 2] ⟨rfl, rfl, rfl, rfl, rfl, rfl, rfl, trivial⟩ rfl rfl (Nat.le_refl _)) ?_
 rintro ⟨⟨⟨b1, c1⟩, ⟨b2, c2⟩, q⟩, hq⟩
 show VC _ _ _ _ ⟨[(22, avI (q : Int))] ++ [(0, _), (1, _), (2, _), (7, _), (20, _), (21, _)], [boxSch g19 o b1 q c1 b2 c2 292, .row (.slice b1 q c1) q 1 (intsL ((o.take q).map (longO p))) 3, .row (.slice b2 q c2) q 1 (listM ((o.take q).map fun x => o.map (turnO p each x))) 22], 0⟩
 simp only at hq
 refine VC.sr ?_
 refine VO.vv (OpV.lss rfl rfl rfl) ?_
 refine VO.nil ?_
 refine VC.seq ?_
 refine VC.cond rfl (fun aH1b => ?_) (fun aH1b => ?_)
 ·have aH1 := aH1b
  try simp only [qq] at aH1
  refine VC.skip ?_
  refine VC.seq ?_
  refine VC.block ?_
  refine VC.sr ?_
  refine VO.vv (OpV.indexAddr_E rfl Tryz.underlying93 Tryz.sizeOf110 rfl rfl rfl (by omega)) ?_
  refine VO.vv (OpV.loadK_at rfl hB OutW.no Tryz.isAgg110 Tryz.sizeOf110 rfl rfl) ?_
  refine VO.op rfl (OpE.alloc rfl hB rfl Tryz.zeroValue110 rfl ?_)
  intro g9
  refine VO.op rfl (OpE.store (i := 3) rfl hB rfl Tryz.sizeOf110 rfl rfl rfl rfl rfl rfl (Nle rfl) trivial ?_)
  refine VO.nil ?_
  refine VC.seq ?_
  have hoq := hook.all q (by omega)
  have hpq := paceO_ok hpok (hhas q (by omega))
  have hlq := mul_bd (by omega : 0 ≤ (paceO p (o.getD q default).product).cycle) hpq.1.2 (by omega : 0 ≤ (o.getD q default).count) hoq.1.2
  refine VC.region ?_
  refine VO.mw ?_
  refine VO.vv (OpV.fieldAddrO 1 rfl Tryz.underlying110 rfl rfl Tryz.sizeOf9 rfl) ?_
  refine VO.vv (OpV.load_own (i := 3) rfl hB Tryz.isAgg9 rfl rfl rfl (fun h => h)) ?_
  refine VO.op rfl (OpE.call rfl hB rfl Tryz.call122 rfl (plan_paceOf (k := (o.getD q default).product) (by omega) (pace_rise hpok)) ?_)
  rintro _ rfl
  refine VO.mw ?_
  refine VO.vv (OpV.extract rfl rfl rfl) ?_
  refine VO.vv (OpV.extract rfl rfl rfl) ?_
  refine VO.op rfl (OpE.alloc rfl hB rfl Tryz.zeroValue115 rfl ?_)
  intro g10
  refine VO.op rfl (OpE.store (i := 4) rfl hB rfl Tryz.sizeOf115 rfl rfl rfl rfl rfl rfl (Nle rfl) trivial ?_)
  refine VO.mb ?_
  refine VO.nil ?_
  refine VC.seq ?_
  refine VC.draw (fun j b => (j = 14 ∧ b = g19) ∨ (j = 11 ∧ (b ≠ g10 ∧ b ≠ g9))) hB (by kernel_rfl) ?_
  refine VA.tk (i := 0) rfl (OpV.move (.inl rfl) rfl) ?_
  refine VA.tk (i := 1) rfl (OpV.move (.inl rfl) rfl) ?_
  refine VA.tk (i := 2) rfl (OpV.nilCheck rfl rfl) ?_
  refine VA.tk (i := 3) rfl (OpV.fieldAddrO 1 rfl Tryz.underlying292 rfl rfl Tryz.sizeOf22 rfl) ?_
  refine VA.tk (i := 4) rfl (OpV.load_own (i := 0) rfl hB Tryz.isAgg22 rfl rfl rfl (Wi.not2 (by kernel_rfl) (by kernel_rfl))) ?_
  refine VA.tk (i := 5) rfl (OpV.fieldAddrO 1 rfl Tryz.underlying115 rfl rfl Tryz.sizeOf3 rfl) ?_
  refine VA.tk (i := 6) rfl (OpV.load_own (i := 4) rfl hB Tryz.isAgg3 rfl rfl rfl (Wi.notN2 (by kernel_rfl) (fun h => h.1 rfl))) ?_
  refine VA.tk (i := 7) rfl (OpV.fieldAddrO 2 rfl Tryz.underlying110 rfl rfl Tryz.sizeOf3 rfl) ?_
  refine VA.tk (i := 8) rfl (OpV.load_own (i := 3) rfl hB Tryz.isAgg3 rfl rfl rfl (Wi.notN2 (by kernel_rfl) (fun h => h.2 rfl))) ?_
  refine VA.tk (i := 9) rfl (OpV.mul rfl rfl rfl (by unfold fits; omega)) ?_
  refine VA.all (rs := [10]) (by kernel_rfl) (by decide) ?_
  refine ⟨⟨_, rfl, .inl rfl, ?_⟩, trivial⟩
  refine bI rfl hB rfl (by decide) rfl rfl ?_
  refine VA.all (rs := [11]) (by kernel_rfl) (by decide) ?_
  refine ⟨⟨_, rfl, .inl rfl, ?_⟩, trivial⟩
  refine OpE.hap (fun hap => ?_)
  refine OpE.append1S (i := 1) rfl hB rfl Tryz.underlying22 (infoOf Tryz.t3 1 (by kernel_rfl) rfl rfl) rfl (by decide) (by decide) rfl rfl rfl rfl (intsL_snoc _ _) (by omega) (fun g' hg => .inr ⟨rfl, apart_ne hap (i := 1) (j := 4) hg rfl (by decide), apart_ne hap (i := 1) (j := 3) hg rfl (by decide)⟩) ?_
  intro b44 c44
  refine VA.tk (i := 12) rfl (OpV.nilCheck rfl rfl) ?_
  refine VA.tk (i := 13) rfl (OpV.fieldAddrO 1 rfl Tryz.underlying292 rfl rfl Tryz.sizeOf22 rfl) ?_
  refine VA.all (rs := [14]) (by kernel_rfl) (by decide) ?_
  refine ⟨⟨_, rfl, .inl rfl, ?_⟩, trivial⟩
  refine OpE.hap (fun hap => ?_)
  refine OpE.store (i := 0) rfl hB rfl Tryz.sizeOf22 rfl rfl rfl rfl rfl rfl (Nle rfl) (by first | exact .inl ⟨rfl, rfl⟩ | (refine ⟨by first | exact rfl | exact .inl rfl | exact .inr rfl, ?_⟩; repeat (first | (first | exact apart_ne hap (i := 4) (j := 0) rfl rfl (by decide) | exact apart_ne hap (i := 4) (j := 1) rfl rfl (by decide) | exact apart_ne hap (i := 4) (j := 2) rfl rfl (by decide) | exact apart_ne hap (i := 4) (j := 3) rfl rfl (by decide) | exact apart_ne hap (i := 3) (j := 0) rfl rfl (by decide) | exact apart_ne hap (i := 3) (j := 1) rfl rfl (by decide) | exact apart_ne hap (i := 3) (j := 2) rfl rfl (by decide) | exact apart_ne hap (i := 3) (j := 4) rfl rfl (by decide) | exact apart_ne hap (i := 2) (j := 0) rfl rfl (by decide) | exact apart_ne hap (i := 2) (j := 1) rfl rfl (by decide) | exact apart_ne hap (i := 2) (j := 3) rfl rfl (by decide) | exact apart_ne hap (i := 2) (j := 4) rfl rfl (by decide) | exact apart_ne hap (i := 1) (j := 0) rfl rfl (by decide) | exact apart_ne hap (i := 1) (j := 2) rfl rfl (by decide) | exact apart_ne hap (i := 1) (j := 3) rfl rfl (by decide) | exact apart_ne hap (i := 1) (j := 4) rfl rfl (by decide) | exact apart_ne hap (i := 0) (j := 1) rfl rfl (by decide) | exact apart_ne hap (i := 0) (j := 2) rfl rfl (by decide) | exact apart_ne hap (i := 0) (j := 3) rfl rfl (by decide) | exact apart_ne hap (i := 0) (j := 4) rfl rfl (by decide)) | refine And.intro ?_ ?_))) ?_
  refine VA.done (by kernel_rfl) ?_
  refine VC.sr ?_
  refine VO.mb ?_
  refine VO.nil ?_
  refine VC.seq ?_
  refine VC.sr ?_
  refine VO.mw ?_
  refine VO.vv (OpV.len_im rfl Tryz.underlying93 rfl) ?_
  refine VO.mw ?_
  refine VO.nil ?_
  refine VC.block ?_
  refine VC.le _ (Le.nilRow 1 3) ?_
  refine VC.loopK [(0, _), (1, _), (2, _), (7, _), (10, _), (20, _), (21, _), (22, _), (47, _), (48, _)] (by repeat first | refine ⟨rfl, ?_⟩ | trivial) ({z : Value × Nat // z.2 ≤ o.length}) (fun (iZ : {z : Value × Nat // z.2 ≤ o.length}) => match iZ with | ⟨⟨u, r⟩, hr⟩ => [(12, .v u), (49, avI (r : Int))]) (fun (iZ : {z : Value × Nat // z.2 ≤ o.length}) => match iZ with | ⟨⟨u, r⟩, hr⟩ => [.box g19 ⟨[avL o, .v (.slice b44 (q + 1) c44), .v (.slice b2 q c2)], 292, 3⟩, .row (.slice b44 (q + 1) c44) (q + 1) 1 (intsL ((o.take q).map (longO p) ++ [longO p (o.getD q default)])) 3, .row (.slice b2 q c2) q 1 (listM ((o.take q).map fun x => o.map (turnO p each x))) 22, boxPc g10 (paceO p (o.getD q default).product) 115, .row u r 1 (intsL ((o.take r).map (turnO p each (o.getD q default)))) 3]) (fun (iZ : {z : Value × Nat // z.2 ≤ o.length}) => match iZ with | ⟨⟨u, r⟩, hr⟩ => 0) (fun (iZ : {z : Value × Nat // z.2 ≤ o.length}) => match iZ with | ⟨⟨u, r⟩, hr⟩ => o.length - r) ⟨(.slice none 0 0, 0), Nat.zero_le _⟩ (Le.mk hB [0, 1, 2, 4, 5] (by repeat first | refine ⟨rfl, ?_⟩ | trivial) rfl rfl (Nat.le_refl _)) ?_
  rintro ⟨⟨u, r⟩, hr⟩
  show VC _ _ _ _ ⟨[(12, .v u), (49, avI (r : Int))] ++ [(0, _), (1, _), (2, _), (7, _), (10, _), (20, _), (21, _), (22, _), (47, _), (48, _)], [.box g19 ⟨[avL o, .v (.slice b44 (q + 1) c44), .v (.slice b2 q c2)], 292, 3⟩, .row (.slice b44 (q + 1) c44) (q + 1) 1 (intsL ((o.take q).map (longO p) ++ [longO p (o.getD q default)])) 3, .row (.slice b2 q c2) q 1 (listM ((o.take q).map fun x => o.map (turnO p each x))) 22, boxPc g10 (paceO p (o.getD q default).product) 115, .row u r 1 (intsL ((o.take r).map (turnO p each (o.getD q default)))) 3], 0⟩
  simp only at hr
  refine VC.sr ?_
  refine VO.vv (OpV.lss rfl rfl rfl) ?_
  refine VO.nil ?_
  refine VC.seq ?_
  refine VC.cond rfl (fun aH2b => ?_) (fun aH2b => ?_)
  ·have aH2 := aH2b
   try simp only [qq] at aH2
   refine VC.skip ?_
   refine VC.seq ?_
   refine VC.block ?_
   refine VC.sr ?_
   refine VO.vv (OpV.indexAddr_E rfl Tryz.underlying93 Tryz.sizeOf110 rfl rfl rfl (by omega)) ?_
   refine VO.vv (OpV.loadK_at rfl hB OutW.no Tryz.isAgg110 Tryz.sizeOf110 rfl rfl) ?_
   refine VO.op rfl (OpE.alloc rfl hB rfl Tryz.zeroValue110 rfl ?_)
   intro g14
   refine VO.op rfl (OpE.store (i := 5) rfl hB rfl Tryz.sizeOf110 rfl rfl rfl rfl rfl rfl (Nle rfl) trivial ?_)
   refine VO.nil ?_
   refine VC.sr ?_
   refine VO.mw ?_
   refine VO.vv (OpV.fieldAddrO 1 rfl Tryz.underlying110 rfl rfl Tryz.sizeOf9 rfl) ?_
   refine VO.vv (OpV.load_own (i := 5) rfl hB Tryz.isAgg9 rfl rfl rfl (fun h => h)) ?_
   refine VO.op rfl (OpE.call rfl hB rfl Tryz.call122 rfl (plan_paceOf (k := (o.getD r default).product) (by omega) (pace_rise hpok)) ?_)
   rintro _ rfl
   refine VO.mw ?_
   refine VO.vv (OpV.extract rfl rfl rfl) ?_
   refine VO.vv (OpV.extract rfl rfl rfl) ?_
   refine VO.op rfl (OpE.alloc rfl hB rfl Tryz.zeroValue115 rfl ?_)
   intro g15
   refine VO.op rfl (OpE.store (i := 6) rfl hB rfl Tryz.sizeOf115 rfl rfl rfl rfl rfl rfl (Nle rfl) trivial ?_)
   refine VO.mb ?_
   refine VO.nil ?_
   refine VC.region ?_
   refine VO.mw ?_
   refine VO.vv (OpV.loadK_own (i := 3) rfl hB Tryz.isAgg115 Tryz.sizeOf115 rfl rfl rfl (fun h => h)) ?_
   refine VO.vv (OpV.loadK_own (i := 6) rfl hB Tryz.isAgg115 Tryz.sizeOf115 rfl rfl rfl (fun h => h)) ?_
   refine VO.mw ?_
   refine VO.op rfl (OpE.call rfl hB rfl Tryz.call189 rfl (SpecN.spec (plan_changeover (a := paceO p (o.getD q default).product) (b := paceO p (o.getD r default).product) (paceO_sm hp _).1 (paceO_sm hp _).1 he)) ?_)
   rintro _ rfl
   refine VO.op rfl (bI rfl hB rfl (by decide) rfl rfl ?_)
   refine VO.op rfl (OpE.append1 (i := 4) rfl hB rfl Tryz.underlying22 (infoOf Tryz.t3 1 (by kernel_rfl) rfl rfl) rfl (by decide) (by decide) rfl rfl rfl rfl (intsL_snoc _ _) (by omega) (fun _ _ => trivial) ?_)
   intro u66
   refine VO.mb ?_
   refine VO.nil ?_
   refine VC.region ?_
   refine VO.vv (OpV.add rfl rfl rfl (by unfold fits; omega)) ?_
   refine VO.mw ?_
   refine VO.nil ?_
   exact Exists.intro (⟨(u66, r + 1), by show r + 1 ≤ _; omega⟩) (And.intro (Le.mk hB [0, 1, 2, 3, 4] (by repeat first | refine ⟨rfl, ?_⟩ | trivial) rfl (by dsimp only; rw [map_snoc (turnO p each (o.getD q default)) (show r < o.length by omega) default]; rfl) (Nat.le_refl _)) (by first | omega | (show _ < _; omega) | (simp only []; omega)))
  ·have aH2 := aH2b
   try simp only [qq] at aH2
   refine VC.exit ?_
   have hre : o.take r = o := List.take_of_length_le (by omega)
   have hro : r = o.length := by omega
   rw [hre]
   refine VC.le _ (Le.rowI (t := 12) (i := 4) hB hnew rfl rfl (by rw [List.length_map]; exact hro)) ?_
   refine VC.region ?_
   refine VO.mw ?_
   refine VO.mw ?_
   refine VO.vv (OpV.nilCheck rfl rfl) ?_
   refine VO.vv (OpV.fieldAddrO 2 rfl Tryz.underlying292 rfl rfl Tryz.sizeOf290 rfl) ?_
   refine VO.vv (OpV.load_own (i := 0) rfl hB Tryz.isAgg290 rfl rfl rfl (fun h => h)) ?_
   refine VO.mw ?_
   refine VO.op rfl (OpE.buildSlice (zc := #[.slice none 0 0]) rfl hB rfl Tryz.underlying290 Tryz.sizeOf22 Tryz.zeroValue22 (by decide) (by decide) (by kernel_rfl) rfl rfl ?_)
   refine VO.op rfl (OpE.append1S (i := 2) rfl hB rfl Tryz.underlying290 (infoOf Tryz.t22 1 (by kernel_rfl) rfl rfl) rfl (by decide) (by decide) rfl rfl rfl rfl (listM_snoc _ (o.map (turnO p each (o.getD q default)))) (by omega) (fun _ _ => trivial) ?_)
   intro b75 c75
   refine VO.vv (OpV.nilCheck rfl rfl) ?_
   refine VO.vv (OpV.fieldAddrO 2 rfl Tryz.underlying292 rfl rfl Tryz.sizeOf290 rfl) ?_
   refine VO.op rfl (OpE.store (i := 0) rfl hB rfl Tryz.sizeOf290 rfl rfl rfl rfl rfl rfl (Nle rfl) trivial ?_)
   refine VO.nil ?_
   refine VC.region ?_
   refine VO.vv (OpV.add rfl rfl rfl (by unfold fits; omega)) ?_
   refine VO.mw ?_
   refine VO.nil ?_
   exact Exists.intro (⟨((b44, c44), (b75, c75), q + 1), by show q + 1 ≤ _; omega⟩) (And.intro (Le.mk hB [0, 1, 2] ⟨rfl, rfl, rfl, rfl, rfl, rfl, rfl, trivial⟩ rfl (by dsimp only; rw [map_snoc (longO p) (show q < o.length by omega) default, map_snoc (fun x => o.map (turnO p each x)) (show q < o.length by omega) default]; rfl) (Nat.le_refl _)) (by first | omega | (show _ < _; omega) | (simp only []; omega)))
 ·have aH1 := aH1b
  try simp only [qq] at aH1
  refine VC.exit ?_
  refine VC.seq ?_
  have hqe : o.take q = o := List.take_of_length_le (by omega)
  have hqo : q = o.length := by omega
  rw [hqe]
  refine VC.le _ (Le.cellRow (i := 0) (k := 1) (j := 1) (y := avInts (o.map (longO p))) hB rfl rfl rfl (by omega) (fun w Z u h => Rep.ints (by rw [List.length_map]; exact hqo) h)) ?_
  refine VC.le _ (Le.cellRow (i := 0) (k := 1) (j := 2) (y := avM (o.map fun x => o.map (turnO p each x))) hB rfl rfl rfl (by omega) (fun w Z u h => Rep.listM (by rw [List.length_map]; exact hqo) h)) ?_
  refine VC.le _ (Le.freezeAt (t := 7) (i := 0) (m := 3) (f := schC p o each) rfl rfl (Nle rfl) (fun w Z u h => h.at_congr (g := schC p o each) (fun j hj => by rcases j with _ | _ | _ | j <;> first | rfl | omega)) hnew hB) ?_
  refine VC.region ?_
  refine VO.mw ?_
  refine VO.mb ?_
  refine VO.nil ?_
  refine VC.ret ?_
  exact Exists.intro _ (And.intro (RetV.one Tryz.results105 (ResV.tmp rfl)) (rfl))
theorem plan_scheduled {p : List PaceS} {o : List OrdrS} {l : List Int} {start each : Int} (hp : SmPc p) (ho : SmOr o) (hl : l.length ≤ 1000000) :
  Spec Tryz.prog 109 [avL p, avL o, avInts l, avI start, avI each] (fun y => y = .tup [schAV p o l start each, avI (scheF p o l start each)]) := by
 refine Spec.of_VC Tryz.func109 rfl Tryz.ntmps109 (Nle rfl) fun w A hB => ?_
 refine VC.sr ?_
 refine VO.mb ?_
 refine VO.mb ?_
 refine VO.nil ?_
 refine VC.seq ?_
 refine VC.sr ?_
 refine VO.mw ?_
 refine VO.mw ?_
 refine VO.op rfl (OpE.call rfl hB rfl Tryz.call103 rfl (SpecN.spec (plan_fault hp ho)) ?_)
 rintro _ rfl
 refine VO.mb ?_
 refine VO.nil ?_
 refine VC.sr ?_
 refine VO.mw ?_
 refine VO.vv (OpV.neq rfl rfl rfl) ?_
 refine VO.nil ?_
 refine VC.cond rfl (fun h0b => ?_) (fun h0b => ?_)
 ·have h0 := h0b
  try simp only [qq] at h0
  refine VC.sr ?_
  refine VO.mw ?_
  refine VO.mb ?_
  refine VO.mb ?_
  refine VO.nil ?_
  refine VC.ret ?_
  exact Exists.intro _ (And.intro (RetV.two Tryz.results109 (ResV.tmp rfl) (ResV.tmp rfl)) (by rw [schAV_no (by rw [scheF_1 h0]; exact h0), scheF_1 h0]))
 ·have h0 := h0b
  try simp only [qq] at h0
  refine VC.skip ?_
  refine VC.seq ?_
  refine VC.sr ?_
  refine VO.mw ?_
  refine VO.mw ?_
  refine VO.op rfl (OpE.call rfl hB rfl Tryz.call192 rfl (SpecN.spec (plan_scheduleFault ho.len hl)) ?_)
  rintro _ rfl
  refine VO.mb ?_
  refine VO.nil ?_
  refine VC.sr ?_
  refine VO.mw ?_
  refine VO.vv (OpV.neq rfl rfl rfl) ?_
  refine VO.nil ?_
  refine VC.cond rfl (fun h1b => ?_) (fun h1b => ?_)
  ·have h1 := h1b
   try simp only [qq] at h1
   refine VC.sr ?_
   refine VO.mw ?_
   refine VO.mb ?_
   refine VO.mb ?_
   refine VO.nil ?_
   refine VC.ret ?_
   exact Exists.intro _ (And.intro (RetV.two Tryz.results109 (ResV.tmp rfl) (ResV.tmp rfl)) (by rw [schAV_no (by rw [scheF_2 (by omega) h1]; exact h1), scheF_2 (by omega) h1]))
  ·have h1 := h1b
   try simp only [qq] at h1
   refine VC.skip ?_
   refine VC.seq ?_
   refine VC.sr ?_
   refine VO.mw ?_
   refine VO.mw ?_
   refine VO.op rfl (OpE.call rfl hB rfl Tryz.call104 rfl (SpecN.spec (plan_numbersFault)) ?_)
   rintro _ rfl
   refine VO.mb ?_
   refine VO.nil ?_
   refine VC.sr ?_
   refine VO.mw ?_
   refine VO.vv (OpV.neq rfl rfl rfl) ?_
   refine VO.nil ?_
   refine VC.cond rfl (fun h2b => ?_) (fun h2b => ?_)
   ·have h2 := h2b
    try simp only [qq] at h2
    refine VC.sr ?_
    refine VO.mw ?_
    refine VO.mb ?_
    refine VO.mb ?_
    refine VO.nil ?_
    refine VC.ret ?_
    exact Exists.intro _ (And.intro (RetV.two Tryz.results109 (ResV.tmp rfl) (ResV.tmp rfl)) (by rw [schAV_no (by rw [scheF_3 (by omega) (by omega)]; exact h2), scheF_3 (by omega) (by omega)]))
   ·have h2 := h2b
    try simp only [qq] at h2
    have hz : scheF p o l start each = 0 := by rw [scheF_3 (by omega) (by omega)]; omega
    have hk := schOk hz
    refine VC.skip ?_
    refine VC.sr ?_
    refine VO.mw ?_
    refine VO.mw ?_
    refine VO.mw ?_
    refine VO.op rfl (OpE.call rfl hB rfl Tryz.call105 rfl (plan_newScheduler hp hk.pok hk.ook hk.has hk.ea) ?_)
    rintro _ rfl
    refine VO.mb ?_
    refine VO.mb ?_
    refine VO.nil ?_
    refine VC.ret ?_
    exact Exists.intro _ (And.intro (RetV.two Tryz.results109 (ResV.tmp rfl) (ResV.tmp rfl)) (by rw [schAV_ok hz, hz]))
abbrev boxRes (g : Nat) (r : ResS) (ty : TypeId) : Ent := .box g ⟨[avI r.late, avI r.many, avI r.en], ty, 3⟩
set_option maxHeartbeats 8000000 in
theorem plan_run {τ : Type} {K : τ → List Ent → Prop} {step : τ → Int → WinS → τ} {p : List PaceS} {o : List OrdrS} {l : List Int} {start each : Int} {F : FuncId} {caps : Array Value} {h : List Ent} {a : τ} (hk : SchOk p o l start each) (hcd : ∀ us w, (callFunc F us).run Tryz.prog w = .ok (.enter F us) w) (hdo : DoesW o.length K step Tryz.prog F caps) (hK : K a h) :
  SpecH Tryz.prog 110 [.at_ 3 (schC p o each), avInts l, avI start, .v (.func (.func F) #[] caps)] h (fun y hp' => ∃ h' e1 e2, K (runA step p o l start each a l.length) h' ∧ y = .agg [avI (resP p o l start each l.length).late, avI (resP p o l start each l.length).many, avI (resP p o l start each l.length).en] ∧ hp' = e1 :: e2 :: h') := by
 refine SpecH.of_VC Tryz.func110 rfl Tryz.ntmps110 (Nle rfl) fun w A hB => ?_
 refine VC.seq ?_
 have hl := hk.len
 have ho := hk.ook.len
 refine VC.region ?_
 refine VO.op rfl (OpE.alloc rfl hB rfl Tryz.zeroValue199 rfl ?_)
 intro g8
 refine VO.le _ (Le.front rfl) ?_
 refine VO.nil ?_
 refine VC.sr ?_
 refine VO.mw ?_
 refine VO.vv (OpV.build (pls := #[(0, 1), (1, 1), (2, 1)]) rfl Tryz.zeroValue199 Tryz.underlying199 (fun w => by kernel_rfl) rfl rfl) ?_
 refine VO.op rfl (OpE.alloc rfl hB rfl Tryz.zeroValue199 rfl ?_)
 intro g9
 refine VO.le _ (Le.front rfl) ?_
 refine VO.op rfl (OpE.store (i := 0) rfl hB rfl Tryz.sizeOf199 rfl rfl rfl rfl rfl rfl (Nle rfl) trivial ?_)
 refine VO.nil ?_
 refine VC.seq ?_
 refine VC.sr ?_
 refine VO.mw ?_
 refine VO.vv (OpV.len_im rfl Tryz.underlying22 rfl) ?_
 refine VO.mw ?_
 refine VO.nil ?_
 refine VC.block ?_
 refine VC.loopK [(0, _), (1, _), (2, _), (3, _), (8, _), (9, _), (15, _), (16, _)] ⟨rfl, rfl, rfl, rfl, rfl, rfl, rfl, rfl, trivial⟩ ({z : List Ent × Nat // z.2 ≤ l.length ∧ K (runA step p o l start each a z.2) z.1}) (fun (iZ : {z : List Ent × Nat // z.2 ≤ l.length ∧ K (runA step p o l start each a z.2) z.1}) => match iZ with | ⟨⟨hh, q⟩, hq, hkk⟩ => [(17, avI (q : Int))]) (fun (iZ : {z : List Ent × Nat // z.2 ≤ l.length ∧ K (runA step p o l start each a z.2) z.1}) => match iZ with | ⟨⟨hh, q⟩, hq, hkk⟩ => [boxRes g9 (resP p o l start each q) 199, .box g8 ⟨[avI 0, avI 0, avI 0], 199, 3⟩] ++ hh) (fun (iZ : {z : List Ent × Nat // z.2 ≤ l.length ∧ K (runA step p o l start each a z.2) z.1}) => match iZ with | ⟨⟨hh, q⟩, hq, hkk⟩ => 0) (fun (iZ : {z : List Ent × Nat // z.2 ≤ l.length ∧ K (runA step p o l start each a z.2) z.1}) => match iZ with | ⟨⟨hh, q⟩, hq, hkk⟩ => l.length - q) ⟨(h, 0), Nat.zero_le _, hK⟩ (Le.mkP hB (by repeat first | refine ⟨rfl, ?_⟩ | trivial) (List.Sublist.refl _) (List.Perm.refl _) (Nat.le_refl _)) ?_
 rintro ⟨⟨hh, q⟩, hq, hkk⟩
 show VC _ _ _ _ ⟨[(17, avI (q : Int))] ++ [(0, _), (1, _), (2, _), (3, _), (8, _), (9, _), (15, _), (16, _)], [boxRes g9 (resP p o l start each q) 199, .box g8 ⟨[avI 0, avI 0, avI 0], 199, 3⟩] ++ hh, 0⟩
 simp only at hq hkk
 refine VC.sr ?_
 refine VO.vv (OpV.lss rfl rfl rfl) ?_
 refine VO.nil ?_
 refine VC.seq ?_
 refine VC.cond rfl (fun aH1b => ?_) (fun aH1b => ?_)
 ·have aH1 := aH1b
  try simp only [qq] at aH1
  refine VC.skip ?_
  refine VC.seq ?_
  refine VC.block ?_
  refine VC.seq ?_
  have hat := hk.at_ (q := q) (by omega)
  have hbd := hk.bd q (by omega)
  have hrs := hk.res q (by omega)
  have hfe := endP_from p o l start each q
  have hlo : 0 ≤ longO p (orA o (l.getD q 0)) ∧ longO p (orA o (l.getD q 0)) ≤ 1000000000000 := hk.long hat.2
  have hdu : (0 ≤ (orA o (l.getD q 0)).ready ∧ (orA o (l.getD q 0)).ready ≤ 345686399999) ∧ 0 ≤ (orA o (l.getD q 0)).due ∧ (orA o (l.getD q 0)).due ≤ 345686399999 := (hk.ook.all _ hat.2).2
  refine VC.region ?_
  refine VO.mw ?_
  refine VO.vv (OpV.indexAddr_1 rfl Tryz.underlying22 Tryz.sizeOf3 rfl rfl rfl (by omega)) ?_
  refine VO.vv (OpV.load_at rfl hB OutW.no Tryz.isAgg3 rfl rfl) ?_
  refine VO.mb ?_
  refine VO.mb ?_
  refine VO.nil ?_
  refine VC.sr ?_
  refine VO.mw ?_
  refine VO.mb ?_
  refine VO.nil ?_
  refine VC.seq ?_
  refine VC.sr ?_
  refine VO.mw ?_
  refine VO.vv (OpV.gtr rfl rfl rfl) ?_
  refine VO.nil ?_
  refine VC.cond rfl (fun aH2b => ?_) (fun aH2b => ?_)
  ·have aH2 := aH2b
   try simp only [qq] at aH2
   obtain ⟨q', hq'⟩ : ∃ q', q = q' + 1 := ⟨q - 1, by omega⟩
   have hen : (resP p o l start each q).en = endP p o l start each q' := by rw [hq', resP_en]
   have hfr : fromP p o l start each q = max (endP p o l start each q' + turnO p each (orA o (l.getD q' 0)) (orA o (l.getD q 0))) (orA o (l.getD q 0)).ready := by rw [hq']; rfl
   have hat1 := hk.at_ (q := q') (by omega)
   have htu : 0 ≤ turnO p each (orA o (l.getD q' 0)) (orA o (l.getD q 0)) ∧ turnO p each (orA o (l.getD q' 0)) (orA o (l.getD q 0)) ≤ 10000000000 := hk.turn hat.2
   refine VC.draw (fun _ => NoB) hB (by kernel_rfl) ?_
   refine VA.tk (i := 0) rfl (OpV.fieldAddrO 2 rfl Tryz.underlying199 rfl rfl Tryz.sizeOf3 rfl) ?_
   refine VA.tk (i := 1) rfl (OpV.load_own (i := 0) rfl hB Tryz.isAgg3 rfl rfl rfl Wi.not0) ?_
   refine VA.le _ (Le.recast (t := 26) (y := avI (endP p o l start each q')) rfl (fun w Z u h => by rw [hen] at h; exact h)) ?_
   refine VA.tk (i := 2) rfl (OpV.move (.inl rfl) rfl) ?_
   refine VA.tk (i := 3) rfl (OpV.nilCheck_at rfl rfl) ?_
   refine VA.tk (i := 4) rfl (OpV.fieldAddr_atO 2 rfl Tryz.underlying292 rfl rfl Tryz.sizeOf290 rfl rfl) ?_
   refine VA.tk (i := 5) rfl (OpV.load_at rfl hB OutW.wi0 Tryz.isAgg290 rfl rfl) ?_
   refine VA.tk (i := 6) rfl (OpV.move (.inl rfl) rfl) ?_
   refine VA.tk (i := 7) rfl (OpV.move (.inl rfl) rfl) ?_
   refine VA.tk (i := 8) rfl (OpV.sub rfl rfl rfl (by unfold fits; omega)) ?_
   refine VA.tk (i := 9) rfl (OpV.indexAddr_1 rfl Tryz.underlying22 Tryz.sizeOf3 rfl rfl (show ((q : Int) - 1) = (q' : Int) by omega) (by omega)) ?_
   refine VA.tk (i := 10) rfl (OpV.load_at rfl hB OutW.wi0 Tryz.isAgg3 rfl rfl) ?_
   refine VA.tk (i := 11) rfl (OpV.indexAddr_1 rfl Tryz.underlying290 Tryz.sizeOf22 rfl rfl (Int.toNat_of_nonneg hat1.1).symm (by rw [List.length_map]; exact hat1.2)) ?_
   refine VA.tk (i := 12) rfl (OpV.load_at rfl hB OutW.wi0 Tryz.isAgg22 rfl rfl) ?_
   refine VA.le _ (Le.recast (t := 37) (y := avInts (o.map (turnO p each (orA o (l.getD q' 0))))) rfl (fun w Z u h => by rw [map_getD (fun x => o.map (turnO p each x)) hat1.2 default default] at h; exact h)) ?_
   refine VA.tk (i := 13) rfl (OpV.move (.inl rfl) rfl) ?_
   refine VA.tk (i := 14) rfl (OpV.indexAddr_1 rfl Tryz.underlying22 Tryz.sizeOf3 rfl rfl (Int.toNat_of_nonneg hat.1).symm (by rw [List.length_map]; exact hat.2)) ?_
   refine VA.tk (i := 15) rfl (OpV.load_at rfl hB OutW.wi0 Tryz.isAgg3 rfl rfl) ?_
   refine VA.le _ (Le.recast (t := 40) (y := avI (turnO p each (orA o (l.getD q' 0)) (orA o (l.getD q 0)))) rfl (fun w Z u h => by rw [map_getD (turnO p each (orA o (l.getD q' 0))) hat.2 default 0] at h; exact h)) ?_
   refine VA.tk (i := 16) rfl (OpV.add rfl rfl rfl ((by have := hk.bd q' (by omega); unfold fits; omega))) ?_
   refine VA.tk (i := 17) rfl (OpV.move (.inr rfl) rfl) ?_
   refine VA.done (by kernel_rfl) ?_
   refine VC.sr ?_
   refine VO.mw ?_
   refine VO.mw ?_
   refine VO.vv (OpV.nilCheck_at rfl rfl) ?_
   refine VO.vv (OpV.fieldAddr_atO 0 rfl Tryz.underlying292 rfl rfl Tryz.sizeOf93 rfl rfl) ?_
   refine VO.vv (OpV.load_at rfl hB OutW.no Tryz.isAgg93 rfl rfl) ?_
   refine VO.le _ (Le.recast (t := 46) (y := avL o) rfl (fun w Z u h => h)) ?_
   refine VO.mw ?_
   refine VO.vv (OpV.indexAddr_E rfl Tryz.underlying93 Tryz.sizeOf110 rfl rfl (Int.toNat_of_nonneg hat.1).symm hat.2) ?_
   refine VO.vv (OpV.fieldAddr_atO 3 rfl Tryz.underlying110 rfl rfl Tryz.sizeOf3 rfl rfl) ?_
   refine VO.vv (OpV.load_at rfl hB OutW.no Tryz.isAgg3 rfl rfl) ?_
   refine VO.vv (OpV.max2 rfl rfl rfl) ?_
   refine VO.le _ (Le.recast (t := 51) (y := avI (fromP p o l start each q)) rfl (fun w Z u h => by rw [hfr]; exact h)) ?_
   refine VO.mb ?_
   refine VO.nil ?_
   refine VC.sr ?_
   refine VO.mw ?_
   refine VO.mw ?_
   refine VO.vv (OpV.nilCheck_at rfl rfl) ?_
   refine VO.vv (OpV.fieldAddr_atO 1 rfl Tryz.underlying292 rfl rfl Tryz.sizeOf22 rfl rfl) ?_
   refine VO.vv (OpV.load_at rfl hB OutW.no Tryz.isAgg22 rfl rfl) ?_
   refine VO.mw ?_
   refine VO.vv (OpV.indexAddr_1 rfl Tryz.underlying22 Tryz.sizeOf3 rfl rfl (Int.toNat_of_nonneg hat.1).symm (by rw [List.length_map]; exact hat.2)) ?_
   refine VO.vv (OpV.load_at rfl hB OutW.no Tryz.isAgg3 rfl rfl) ?_
   refine VO.le _ (Le.recast (t := 59) (y := avI (longO p (orA o (l.getD q 0)))) rfl (fun w Z u h => by rw [map_getD (longO p) hat.2 default 0] at h; exact h)) ?_
   refine VO.vv (OpV.add rfl rfl rfl ((by unfold fits; rw [← hfe]; omega))) ?_
   refine VO.le _ (Le.recast (t := 60) (y := avI (endP p o l start each q)) rfl (fun w Z u h => by rw [hfe]; exact h)) ?_
   refine VO.vv (OpV.fieldAddrO 2 rfl Tryz.underlying199 rfl rfl Tryz.sizeOf3 rfl) ?_
   refine VO.op rfl (OpE.store (i := 0) rfl hB rfl Tryz.sizeOf3 rfl rfl rfl rfl rfl rfl (Nle rfl) trivial ?_)
   refine VO.nil ?_
   refine VC.sr ?_
   refine VO.mw ?_
   refine VO.mw ?_
   refine VO.mw ?_
   refine VO.vv (OpV.fieldAddrO 2 rfl Tryz.underlying199 rfl rfl Tryz.sizeOf3 rfl) ?_
   refine VO.vv (OpV.load_own (i := 0) rfl hB Tryz.isAgg3 rfl rfl rfl (fun h => h)) ?_
   refine VO.vv (OpV.build (pls := #[(0, 1), (1, 1)]) rfl Tryz.zeroValue104 Tryz.underlying104 (fun w => by kernel_rfl) rfl rfl) ?_
   refine VO.op rfl (OpE.callH rfl hB rfl hcd rfl rfl (hdo (l.getD q 0) (winP p o l start each q) (runA step p o l start each a q) hh hat.1 hat.2 hkk) (List.perm_append_comm (l₁ := [_, _]) (l₂ := hh)) (fun _ _ => trivial) ?_)
   rintro _ h2 hk2
   refine VO.le _ (Le.perm (List.perm_append_comm (l₁ := h2) (l₂ := [_, _]))) ?_
   refine VO.nil ?_
   refine VC.seq ?_
   refine VC.draw (fun _ => NoB) hB (by kernel_rfl) ?_
   refine VA.tk (i := 0) rfl (OpV.fieldAddrO 2 rfl Tryz.underlying199 rfl rfl Tryz.sizeOf3 rfl) ?_
   refine VA.tk (i := 1) rfl (OpV.load_own (i := 0) rfl hB Tryz.isAgg3 rfl rfl rfl Wi.not0) ?_
   refine VA.tk (i := 2) rfl (OpV.move (.inl rfl) rfl) ?_
   refine VA.tk (i := 3) rfl (OpV.nilCheck_at rfl rfl) ?_
   refine VA.tk (i := 4) rfl (OpV.fieldAddr_atO 0 rfl Tryz.underlying292 rfl rfl Tryz.sizeOf93 rfl rfl) ?_
   refine VA.tk (i := 5) rfl (OpV.load_at rfl hB OutW.wi0 Tryz.isAgg93 rfl rfl) ?_
   refine VA.le _ (Le.recast (t := 74) (y := avL o) rfl (fun w Z u h => h)) ?_
   refine VA.tk (i := 6) rfl (OpV.move (.inl rfl) rfl) ?_
   refine VA.tk (i := 7) rfl (OpV.indexAddr_E rfl Tryz.underlying93 Tryz.sizeOf110 rfl rfl (Int.toNat_of_nonneg hat.1).symm hat.2) ?_
   refine VA.tk (i := 8) rfl (OpV.fieldAddr_atO 4 rfl Tryz.underlying110 rfl rfl Tryz.sizeOf3 rfl rfl) ?_
   refine VA.tk (i := 9) rfl (OpV.load_at rfl hB OutW.wi0 Tryz.isAgg3 rfl rfl) ?_
   refine VA.le _ (Le.recast (t := 78) (y := avI (orA o (l.getD q 0)).due) rfl (fun w Z u h => h)) ?_
   refine VA.tk (i := 10) rfl (OpV.gtr rfl rfl rfl) ?_
   refine VA.done (by kernel_rfl) ?_
   refine VC.cond rfl (fun hdb => ?_) (fun hdb => ?_)
   ·have hd := hdb
    try simp only [qq] at hd
    refine VC.seq ?_
    refine VC.draw (fun j b => j = 15 ∧ b = g9) hB (by kernel_rfl) ?_
    refine VA.tk (i := 0) rfl (OpV.fieldAddrO 0 rfl Tryz.underlying199 rfl rfl Tryz.sizeOf3 rfl) ?_
    refine VA.tk (i := 1) rfl (OpV.load_own (i := 0) rfl hB Tryz.isAgg3 rfl rfl rfl (by first | exact Wi.not1 (by kernel_rfl) | exact Wi.not2 (by kernel_rfl) (by kernel_rfl) | exact Wi.notX (by kernel_rfl))) ?_
    refine VA.tk (i := 2) rfl (OpV.fieldAddrO 2 rfl Tryz.underlying199 rfl rfl Tryz.sizeOf3 rfl) ?_
    refine VA.tk (i := 3) rfl (OpV.load_own (i := 0) rfl hB Tryz.isAgg3 rfl rfl rfl (by first | exact Wi.not1 (by kernel_rfl) | exact Wi.not2 (by kernel_rfl) (by kernel_rfl) | exact Wi.notX (by kernel_rfl))) ?_
    refine VA.tk (i := 4) rfl (OpV.move (.inl rfl) rfl) ?_
    refine VA.tk (i := 5) rfl (OpV.nilCheck_at rfl rfl) ?_
    refine VA.tk (i := 6) rfl (OpV.fieldAddr_atO 0 rfl Tryz.underlying292 rfl rfl Tryz.sizeOf93 rfl rfl) ?_
    refine VA.tk (i := 7) rfl (OpV.load_at rfl hB (by first | exact OutW.wi1 (k := 0) rfl rfl | exact OutW.wi1 (k := 1) rfl rfl) Tryz.isAgg93 rfl rfl) ?_
    refine VA.le _ (Le.recast (t := 87) (y := avL o) rfl (fun w Z u h => h)) ?_
    refine VA.tk (i := 8) rfl (OpV.move (.inl rfl) rfl) ?_
    refine VA.tk (i := 9) rfl (OpV.indexAddr_E rfl Tryz.underlying93 Tryz.sizeOf110 rfl rfl (Int.toNat_of_nonneg hat.1).symm hat.2) ?_
    refine VA.tk (i := 10) rfl (OpV.fieldAddr_atO 4 rfl Tryz.underlying110 rfl rfl Tryz.sizeOf3 rfl rfl) ?_
    refine VA.tk (i := 11) rfl (OpV.load_at rfl hB (by first | exact OutW.wi1 (k := 0) rfl rfl | exact OutW.wi1 (k := 1) rfl rfl) Tryz.isAgg3 rfl rfl) ?_
    refine VA.le _ (Le.recast (t := 91) (y := avI (orA o (l.getD q 0)).due) rfl (fun w Z u h => h)) ?_
    refine VA.tk (i := 12) rfl (OpV.sub rfl rfl rfl (by unfold fits; omega)) ?_
    refine VA.tk (i := 13) rfl (OpV.add rfl rfl rfl (by unfold fits; omega)) ?_
    refine VA.tk (i := 14) rfl (OpV.fieldAddrO 0 rfl Tryz.underlying199 rfl rfl Tryz.sizeOf3 rfl) ?_
    refine VA.all (rs := [15]) (by kernel_rfl) (by decide) ?_
    refine ⟨⟨_, rfl, .inl rfl, ?_⟩, trivial⟩
    refine OpE.store (i := 0) rfl hB rfl Tryz.sizeOf3 rfl rfl rfl rfl rfl rfl (Nle rfl) (by first | exact ⟨rfl, rfl⟩ | exact .inl ⟨rfl, rfl⟩ | exact .inr ⟨rfl, rfl⟩ | exact ⟨rfl, trivial⟩ | exact .inl ⟨rfl, trivial⟩ | exact .inr ⟨rfl, trivial⟩ | exact ⟨by decide, rfl⟩) ?_
    refine VA.done (by kernel_rfl) ?_
    refine VC.region ?_
    refine VO.vv (OpV.fieldAddrO 1 rfl Tryz.underlying199 rfl rfl Tryz.sizeOf3 rfl) ?_
    refine VO.vv (OpV.load_own (i := 0) rfl hB Tryz.isAgg3 rfl rfl rfl (fun h => h)) ?_
    refine VO.vv (OpV.add rfl rfl rfl (by unfold fits; omega)) ?_
    refine VO.vv (OpV.fieldAddrO 1 rfl Tryz.underlying199 rfl rfl Tryz.sizeOf3 rfl) ?_
    refine VO.op rfl (OpE.store (i := 0) rfl hB rfl Tryz.sizeOf3 rfl rfl rfl rfl rfl rfl (Nle rfl) trivial ?_)
    refine VO.nil ?_
    refine VC.region ?_
    refine VO.vv (OpV.add rfl rfl rfl (by unfold fits; omega)) ?_
    refine VO.mw ?_
    refine VO.nil ?_
    exact Exists.intro (⟨(h2, q + 1), by show q + 1 ≤ _; omega, hk2⟩) (And.intro (Le.mkP hB (by repeat first | refine ⟨rfl, ?_⟩ | trivial) (List.Sublist.refl _) (List.Perm.of_eq (by first | exact congrArg (fun z => boxRes g9 z 199 :: .box g8 ⟨[avI 0, avI 0, avI 0], 199, 3⟩ :: h2) (resP_t (p := p) (o := o) (l := l) (s := start) (e := each) (q := q) hd).symm | exact congrArg (fun z => boxRes g9 z 199 :: .box g8 ⟨[avI 0, avI 0, avI 0], 199, 3⟩ :: h2) (resP_f (p := p) (o := o) (l := l) (s := start) (e := each) (q := q) (Int.not_lt.2 hd)).symm)) (Nat.le_refl _)) (by first | omega | (show _ < _; omega) | (simp only []; omega)))
   ·have hd := hdb
    try simp only [qq] at hd
    refine VC.skip ?_
    refine VC.region ?_
    refine VO.vv (OpV.add rfl rfl rfl (by unfold fits; omega)) ?_
    refine VO.mw ?_
    refine VO.nil ?_
    exact Exists.intro (⟨(h2, q + 1), by show q + 1 ≤ _; omega, hk2⟩) (And.intro (Le.mkP hB (by repeat first | refine ⟨rfl, ?_⟩ | trivial) (List.Sublist.refl _) (List.Perm.of_eq (by first | exact congrArg (fun z => boxRes g9 z 199 :: .box g8 ⟨[avI 0, avI 0, avI 0], 199, 3⟩ :: h2) (resP_t (p := p) (o := o) (l := l) (s := start) (e := each) (q := q) hd).symm | exact congrArg (fun z => boxRes g9 z 199 :: .box g8 ⟨[avI 0, avI 0, avI 0], 199, 3⟩ :: h2) (resP_f (p := p) (o := o) (l := l) (s := start) (e := each) (q := q) (Int.not_lt.2 hd)).symm)) (Nat.le_refl _)) (by first | omega | (show _ < _; omega) | (simp only []; omega)))
  ·have aH2 := aH2b
   try simp only [qq] at aH2
   have hq0 : q = 0 := by omega
   have hfr0 : fromP p o l start each q = max start (orA o (l.getD q 0)).ready := by rw [hq0]; rfl
   refine VC.skip ?_
   refine VC.sr ?_
   refine VO.mw ?_
   refine VO.mw ?_
   refine VO.vv (OpV.nilCheck_at rfl rfl) ?_
   refine VO.vv (OpV.fieldAddr_atO 0 rfl Tryz.underlying292 rfl rfl Tryz.sizeOf93 rfl rfl) ?_
   refine VO.vv (OpV.load_at rfl hB OutW.no Tryz.isAgg93 rfl rfl) ?_
   refine VO.le _ (Le.recast (t := 46) (y := avL o) rfl (fun w Z u h => h)) ?_
   refine VO.mw ?_
   refine VO.vv (OpV.indexAddr_E rfl Tryz.underlying93 Tryz.sizeOf110 rfl rfl (Int.toNat_of_nonneg hat.1).symm hat.2) ?_
   refine VO.vv (OpV.fieldAddr_atO 3 rfl Tryz.underlying110 rfl rfl Tryz.sizeOf3 rfl rfl) ?_
   refine VO.vv (OpV.load_at rfl hB OutW.no Tryz.isAgg3 rfl rfl) ?_
   refine VO.vv (OpV.max2 rfl rfl rfl) ?_
   refine VO.le _ (Le.recast (t := 51) (y := avI (fromP p o l start each q)) rfl (fun w Z u h => by rw [hfr0]; exact h)) ?_
   refine VO.mb ?_
   refine VO.nil ?_
   refine VC.sr ?_
   refine VO.mw ?_
   refine VO.mw ?_
   refine VO.vv (OpV.nilCheck_at rfl rfl) ?_
   refine VO.vv (OpV.fieldAddr_atO 1 rfl Tryz.underlying292 rfl rfl Tryz.sizeOf22 rfl rfl) ?_
   refine VO.vv (OpV.load_at rfl hB OutW.no Tryz.isAgg22 rfl rfl) ?_
   refine VO.mw ?_
   refine VO.vv (OpV.indexAddr_1 rfl Tryz.underlying22 Tryz.sizeOf3 rfl rfl (Int.toNat_of_nonneg hat.1).symm (by rw [List.length_map]; exact hat.2)) ?_
   refine VO.vv (OpV.load_at rfl hB OutW.no Tryz.isAgg3 rfl rfl) ?_
   refine VO.le _ (Le.recast (t := 59) (y := avI (longO p (orA o (l.getD q 0)))) rfl (fun w Z u h => by rw [map_getD (longO p) hat.2 default 0] at h; exact h)) ?_
   refine VO.vv (OpV.add rfl rfl rfl ((by unfold fits; rw [← hfe]; omega))) ?_
   refine VO.le _ (Le.recast (t := 60) (y := avI (endP p o l start each q)) rfl (fun w Z u h => by rw [hfe]; exact h)) ?_
   refine VO.vv (OpV.fieldAddrO 2 rfl Tryz.underlying199 rfl rfl Tryz.sizeOf3 rfl) ?_
   refine VO.op rfl (OpE.store (i := 0) rfl hB rfl Tryz.sizeOf3 rfl rfl rfl rfl rfl rfl (Nle rfl) trivial ?_)
   refine VO.nil ?_
   refine VC.sr ?_
   refine VO.mw ?_
   refine VO.mw ?_
   refine VO.mw ?_
   refine VO.vv (OpV.fieldAddrO 2 rfl Tryz.underlying199 rfl rfl Tryz.sizeOf3 rfl) ?_
   refine VO.vv (OpV.load_own (i := 0) rfl hB Tryz.isAgg3 rfl rfl rfl (fun h => h)) ?_
   refine VO.vv (OpV.build (pls := #[(0, 1), (1, 1)]) rfl Tryz.zeroValue104 Tryz.underlying104 (fun w => by kernel_rfl) rfl rfl) ?_
   refine VO.op rfl (OpE.callH rfl hB rfl hcd rfl rfl (hdo (l.getD q 0) (winP p o l start each q) (runA step p o l start each a q) hh hat.1 hat.2 hkk) (List.perm_append_comm (l₁ := [_, _]) (l₂ := hh)) (fun _ _ => trivial) ?_)
   rintro _ h2 hk2
   refine VO.le _ (Le.perm (List.perm_append_comm (l₁ := h2) (l₂ := [_, _]))) ?_
   refine VO.nil ?_
   refine VC.seq ?_
   refine VC.draw (fun _ => NoB) hB (by kernel_rfl) ?_
   refine VA.tk (i := 0) rfl (OpV.fieldAddrO 2 rfl Tryz.underlying199 rfl rfl Tryz.sizeOf3 rfl) ?_
   refine VA.tk (i := 1) rfl (OpV.load_own (i := 0) rfl hB Tryz.isAgg3 rfl rfl rfl Wi.not0) ?_
   refine VA.tk (i := 2) rfl (OpV.move (.inl rfl) rfl) ?_
   refine VA.tk (i := 3) rfl (OpV.nilCheck_at rfl rfl) ?_
   refine VA.tk (i := 4) rfl (OpV.fieldAddr_atO 0 rfl Tryz.underlying292 rfl rfl Tryz.sizeOf93 rfl rfl) ?_
   refine VA.tk (i := 5) rfl (OpV.load_at rfl hB OutW.wi0 Tryz.isAgg93 rfl rfl) ?_
   refine VA.le _ (Le.recast (t := 74) (y := avL o) rfl (fun w Z u h => h)) ?_
   refine VA.tk (i := 6) rfl (OpV.move (.inl rfl) rfl) ?_
   refine VA.tk (i := 7) rfl (OpV.indexAddr_E rfl Tryz.underlying93 Tryz.sizeOf110 rfl rfl (Int.toNat_of_nonneg hat.1).symm hat.2) ?_
   refine VA.tk (i := 8) rfl (OpV.fieldAddr_atO 4 rfl Tryz.underlying110 rfl rfl Tryz.sizeOf3 rfl rfl) ?_
   refine VA.tk (i := 9) rfl (OpV.load_at rfl hB OutW.wi0 Tryz.isAgg3 rfl rfl) ?_
   refine VA.le _ (Le.recast (t := 78) (y := avI (orA o (l.getD q 0)).due) rfl (fun w Z u h => h)) ?_
   refine VA.tk (i := 10) rfl (OpV.gtr rfl rfl rfl) ?_
   refine VA.done (by kernel_rfl) ?_
   refine VC.cond rfl (fun hdb => ?_) (fun hdb => ?_)
   ·have hd := hdb
    try simp only [qq] at hd
    refine VC.seq ?_
    refine VC.draw (fun j b => j = 15 ∧ b = g9) hB (by kernel_rfl) ?_
    refine VA.tk (i := 0) rfl (OpV.fieldAddrO 0 rfl Tryz.underlying199 rfl rfl Tryz.sizeOf3 rfl) ?_
    refine VA.tk (i := 1) rfl (OpV.load_own (i := 0) rfl hB Tryz.isAgg3 rfl rfl rfl (by first | exact Wi.not1 (by kernel_rfl) | exact Wi.not2 (by kernel_rfl) (by kernel_rfl) | exact Wi.notX (by kernel_rfl))) ?_
    refine VA.tk (i := 2) rfl (OpV.fieldAddrO 2 rfl Tryz.underlying199 rfl rfl Tryz.sizeOf3 rfl) ?_
    refine VA.tk (i := 3) rfl (OpV.load_own (i := 0) rfl hB Tryz.isAgg3 rfl rfl rfl (by first | exact Wi.not1 (by kernel_rfl) | exact Wi.not2 (by kernel_rfl) (by kernel_rfl) | exact Wi.notX (by kernel_rfl))) ?_
    refine VA.tk (i := 4) rfl (OpV.move (.inl rfl) rfl) ?_
    refine VA.tk (i := 5) rfl (OpV.nilCheck_at rfl rfl) ?_
    refine VA.tk (i := 6) rfl (OpV.fieldAddr_atO 0 rfl Tryz.underlying292 rfl rfl Tryz.sizeOf93 rfl rfl) ?_
    refine VA.tk (i := 7) rfl (OpV.load_at rfl hB (by first | exact OutW.wi1 (k := 0) rfl rfl | exact OutW.wi1 (k := 1) rfl rfl) Tryz.isAgg93 rfl rfl) ?_
    refine VA.le _ (Le.recast (t := 87) (y := avL o) rfl (fun w Z u h => h)) ?_
    refine VA.tk (i := 8) rfl (OpV.move (.inl rfl) rfl) ?_
    refine VA.tk (i := 9) rfl (OpV.indexAddr_E rfl Tryz.underlying93 Tryz.sizeOf110 rfl rfl (Int.toNat_of_nonneg hat.1).symm hat.2) ?_
    refine VA.tk (i := 10) rfl (OpV.fieldAddr_atO 4 rfl Tryz.underlying110 rfl rfl Tryz.sizeOf3 rfl rfl) ?_
    refine VA.tk (i := 11) rfl (OpV.load_at rfl hB (by first | exact OutW.wi1 (k := 0) rfl rfl | exact OutW.wi1 (k := 1) rfl rfl) Tryz.isAgg3 rfl rfl) ?_
    refine VA.le _ (Le.recast (t := 91) (y := avI (orA o (l.getD q 0)).due) rfl (fun w Z u h => h)) ?_
    refine VA.tk (i := 12) rfl (OpV.sub rfl rfl rfl (by unfold fits; omega)) ?_
    refine VA.tk (i := 13) rfl (OpV.add rfl rfl rfl (by unfold fits; omega)) ?_
    refine VA.tk (i := 14) rfl (OpV.fieldAddrO 0 rfl Tryz.underlying199 rfl rfl Tryz.sizeOf3 rfl) ?_
    refine VA.all (rs := [15]) (by kernel_rfl) (by decide) ?_
    refine ⟨⟨_, rfl, .inl rfl, ?_⟩, trivial⟩
    refine OpE.store (i := 0) rfl hB rfl Tryz.sizeOf3 rfl rfl rfl rfl rfl rfl (Nle rfl) (by first | exact ⟨rfl, rfl⟩ | exact .inl ⟨rfl, rfl⟩ | exact .inr ⟨rfl, rfl⟩ | exact ⟨rfl, trivial⟩ | exact .inl ⟨rfl, trivial⟩ | exact .inr ⟨rfl, trivial⟩ | exact ⟨by decide, rfl⟩) ?_
    refine VA.done (by kernel_rfl) ?_
    refine VC.region ?_
    refine VO.vv (OpV.fieldAddrO 1 rfl Tryz.underlying199 rfl rfl Tryz.sizeOf3 rfl) ?_
    refine VO.vv (OpV.load_own (i := 0) rfl hB Tryz.isAgg3 rfl rfl rfl (fun h => h)) ?_
    refine VO.vv (OpV.add rfl rfl rfl (by unfold fits; omega)) ?_
    refine VO.vv (OpV.fieldAddrO 1 rfl Tryz.underlying199 rfl rfl Tryz.sizeOf3 rfl) ?_
    refine VO.op rfl (OpE.store (i := 0) rfl hB rfl Tryz.sizeOf3 rfl rfl rfl rfl rfl rfl (Nle rfl) trivial ?_)
    refine VO.nil ?_
    refine VC.region ?_
    refine VO.vv (OpV.add rfl rfl rfl (by unfold fits; omega)) ?_
    refine VO.mw ?_
    refine VO.nil ?_
    exact Exists.intro (⟨(h2, q + 1), by show q + 1 ≤ _; omega, hk2⟩) (And.intro (Le.mkP hB (by repeat first | refine ⟨rfl, ?_⟩ | trivial) (List.Sublist.refl _) (List.Perm.of_eq (by first | exact congrArg (fun z => boxRes g9 z 199 :: .box g8 ⟨[avI 0, avI 0, avI 0], 199, 3⟩ :: h2) (resP_t (p := p) (o := o) (l := l) (s := start) (e := each) (q := q) hd).symm | exact congrArg (fun z => boxRes g9 z 199 :: .box g8 ⟨[avI 0, avI 0, avI 0], 199, 3⟩ :: h2) (resP_f (p := p) (o := o) (l := l) (s := start) (e := each) (q := q) (Int.not_lt.2 hd)).symm)) (Nat.le_refl _)) (by first | omega | (show _ < _; omega) | (simp only []; omega)))
   ·have hd := hdb
    try simp only [qq] at hd
    refine VC.skip ?_
    refine VC.region ?_
    refine VO.vv (OpV.add rfl rfl rfl (by unfold fits; omega)) ?_
    refine VO.mw ?_
    refine VO.nil ?_
    exact Exists.intro (⟨(h2, q + 1), by show q + 1 ≤ _; omega, hk2⟩) (And.intro (Le.mkP hB (by repeat first | refine ⟨rfl, ?_⟩ | trivial) (List.Sublist.refl _) (List.Perm.of_eq (by first | exact congrArg (fun z => boxRes g9 z 199 :: .box g8 ⟨[avI 0, avI 0, avI 0], 199, 3⟩ :: h2) (resP_t (p := p) (o := o) (l := l) (s := start) (e := each) (q := q) hd).symm | exact congrArg (fun z => boxRes g9 z 199 :: .box g8 ⟨[avI 0, avI 0, avI 0], 199, 3⟩ :: h2) (resP_f (p := p) (o := o) (l := l) (s := start) (e := each) (q := q) (Int.not_lt.2 hd)).symm)) (Nat.le_refl _)) (by first | omega | (show _ < _; omega) | (simp only []; omega)))
 ·have aH1 := aH1b
  try simp only [qq] at aH1
  obtain rfl : q = l.length := by omega
  refine VC.exit ?_
  refine VC.sr ?_
  refine VO.vv (OpV.loadK_own (i := 0) rfl hB Tryz.isAgg199 Tryz.sizeOf199 rfl rfl rfl (fun h => h)) ?_
  refine VO.op rfl (OpE.store (i := 1) rfl hB rfl Tryz.sizeOf199 rfl rfl rfl rfl rfl rfl (Nle rfl) trivial ?_)
  refine VO.nil ?_
  refine VC.ret ?_
  exact Exists.intro _ (And.intro (RetV.one Tryz.results110 ((by first | exact ResV.cellK (i := 0) Tryz.isAgg199 Tryz.sizeOf199 rfl rfl rfl | exact ResV.cellK (i := 1) Tryz.isAgg199 Tryz.sizeOf199 rfl rfl rfl))) (⟨hh, _, _, hkk, rfl, rfl⟩))
theorem made_win (n : Nat) : (madeCells (Value.agg #[.int .i64 0, .int .i64 0]).cells (n * 2)).toList.map AV.v = rowL (List.replicate n (default : WinS)) := by
 apply List.ext_getElem
 ·rw [rowL_len]; simp [size_madeCells]; rfl
 intro i h1 h2
 have hi : i < n * 2 := by simpa [size_madeCells] using h1
 have e2 := rowL_get' (List.replicate n (default : WinS)) (i := i) (by rw [List.length_replicate]; exact hi)
 rw [List.getElem?_eq_getElem h2] at e2
 have e3 := Option.some.inj e2
 rw [e3]
 have hd : (List.replicate n (default : WinS)).getD (i / Sxc.k WinS) default = default := by
  rw [List.getD_eq_getElem?_getD, List.getElem?_replicate]; split <;> rfl
 rw [hd]
 have hm : i % 2 = 0 ∨ i % 2 = 1 := by omega
 have hk : Sxc.k WinS = 2 := rfl
 rw [hk]
 simp only [List.getElem_map, Array.getElem_toList, madeCells, Array.getElem_map, Array.getElem_range]
 rcases hm with hm | hm <;> rw [show (Value.agg #[.int .i64 0, .int .i64 0]).cells = #[.int .i64 0, .int .i64 0] from rfl, show (#[Value.int .i64 0, Value.int .i64 0]).size = 2 from rfl, hm] <;> rfl
theorem plan_Times1 {n : Nat} {i : Int} {x : WinS} {l : List WinS} {g14 g29 : Nat} (hl : l.length = n) (h0 : 0 ≤ i) (h1 : i.toNat < n) :
  SpecH Tryz.prog 111 [avI i, .agg [avI x.fr, avI x.to], .v (.pointer (some ⟨g14, 0, none⟩))] [.box g14 ⟨[.v (.slice (some ⟨g29, 0, none⟩) n n)], 99, 1⟩, .box g29 ⟨rowL l, 104, n * 2⟩] (fun y hp' => hp' = [.box g14 ⟨[.v (.slice (some ⟨g29, 0, none⟩) n n)], 99, 1⟩, .box g29 ⟨rowL (l.set i.toNat x), 104, n * 2⟩]) := by
 refine SpecH.of_VC Tryz.func111 rfl Tryz.ntmps111 (Nle rfl) fun w A hB => ?_
 refine VC.sr ?_
 refine VO.op rfl (OpE.box rfl hB rfl rfl rfl ?_)
 intro g4
 refine VO.nil ?_
 refine VC.region ?_
 refine VO.vv (OpV.load_own (i := 0) rfl hB Tryz.isAgg99 rfl rfl rfl (fun h => h)) ?_
 refine VO.mw ?_
 refine VO.vv (OpV.loadK_own (i := 2) rfl hB Tryz.isAgg104 Tryz.sizeOf104 rfl rfl rfl (fun h => h)) ?_
 refine VO.le _ (Le.pickH [0, 1] rfl rfl) ?_
 refine VO.vv (OpV.indexAddr_q rfl Tryz.underlying99 Tryz.sizeOf104 rfl rfl (Int.toNat_of_nonneg h0).symm h1) ?_
 refine VO.op rfl (OpE.storeE (i := 1) rfl hB rfl Tryz.sizeOf104 rfl rfl rfl rfl rfl rfl (rowL_inE rfl (by omega)) (rowL_setAll (x := x) rfl (by omega)) trivial ?_)
 refine VO.nil ?_
 exact Exists.intro _ (And.intro (RetV.none Tryz.results111) (rfl))
def KT (n g14 g29 : Nat) (a : List WinS) (h : List Ent) : Prop := a.length = n ∧ h = [.box g14 ⟨[.v (.slice (some ⟨g29, 0, none⟩) n n)], 99, 1⟩, .box g29 ⟨rowL a, 104, n * 2⟩]
theorem times_does {n g14 g29 : Nat} : DoesW n (KT n g14 g29) (fun (a : List WinS) i w => a.set i.toNat w) Tryz.prog 111 #[.pointer (some ⟨g14, 0, none⟩)] := by
 rintro i w a h h0 h1 ⟨hl, rfl⟩
 refine (plan_Times1 (x := w) (l := a) hl h0 h1).mono ?_
 rintro y hp' rfl
 exact ⟨by rw [List.length_set]; exact hl, rfl⟩
theorem flat_win (xs : List WinS) : FlatA (rowL xs) := flat_rowL (fun x j hj => by
 match j, hj with
 | 0, _ => exact ⟨_, rfl⟩
 | 1, _ => exact ⟨_, rfl⟩) xs
set_option maxHeartbeats 4000000 in
theorem plan_Times {p : List PaceS} {o : List OrdrS} {l : List Int} {start each : Int} (hp : SmPc p) (ho : SmOr o) (hl : l.length ≤ 1000000) :
  SpecN Tryz.prog 42 [avL p, avL o, avInts l, avI start, avI each] (fun y => y = .tup [avL (timesR p o l start each), avI (scheF p o l start each)]) := by
 refine SpecN.of_VCN Tryz.func42 rfl Tryz.ntmps42 (Nle rfl) fun w A hB => ?_
 refine VC.sr ?_
 refine VO.mb ?_
 refine VO.mb ?_
 refine VO.nil ?_
 refine VC.sr ?_
 refine VO.mw ?_
 refine VO.mw ?_
 refine VO.mw ?_
 refine VO.mw ?_
 refine VO.mw ?_
 refine VO.op rfl (OpE.call rfl hB rfl Tryz.call109 rfl (plan_scheduled hp ho hl) ?_)
 rintro _ rfl
 refine VO.mw ?_
 refine VO.vv (OpV.extract rfl rfl rfl) ?_
 refine VO.vv (OpV.extract rfl rfl rfl) ?_
 refine VO.mb ?_
 refine VO.mb ?_
 refine VO.nil ?_
 refine VC.seq ?_
 refine VC.sr ?_
 refine VO.mw ?_
 refine VO.vv (OpV.neq rfl rfl rfl) ?_
 refine VO.nil ?_
 refine VC.cond rfl (fun h0b => ?_) (fun h0b => ?_)
 ·have h0 := h0b
  try simp only [qq] at h0
  have hE : timesR p o l start each = [] := by rw [timesR, if_neg h0]
  refine VC.sr ?_
  refine VO.mw ?_
  refine VO.mb ?_
  refine VO.mb ?_
  refine VO.nil ?_
  refine VC.ret ?_
  exact Exists.intro _ (And.intro (RetN.two Tryz.results42 (ResN.nilE rfl) (ResN.v rfl)) (by rw [hE]; rfl))
 ·have h0 := h0b
  try simp only [qq] at h0
  have h00 : scheF p o l start each = 0 := by omega
  have hk := schOk h00
  have hol := hk.ook.len
  have hE : timesR p o l start each = timesQ p o l start each l.length := by rw [timesR, if_pos h00]
  refine VC.le _ (Le.recast (t := 12) (y := .at_ 3 (schC p o each)) rfl (fun w Z u h => by rw [← schAV_ok h00]; exact h)) ?_
  refine VC.skip ?_
  refine VC.sr ?_
  refine VO.mw ?_
  refine VO.vv (OpV.len_im rfl Tryz.underlying93 rfl) ?_
  refine VO.op rfl (OpE.make rfl hB rfl Tryz.underlying99 (infoOf Tryz.t104 2 (by kernel_rfl) rfl rfl) (by decide) rfl rfl (n := o.length) rfl rfl (by omega) (made_win o.length) ?_)
  intro g29
  rw [show (rowL (List.replicate o.length (default : WinS))).length = o.length * 2 by rw [rowL_len, List.length_replicate]; rfl]
  refine VO.op rfl (OpE.alloc rfl hB rfl Tryz.zeroValue99 rfl ?_)
  intro g14
  refine VO.op rfl (OpE.store (i := 1) rfl hB rfl Tryz.sizeOf99 rfl rfl rfl rfl rfl rfl (Nle rfl) trivial ?_)
  refine VO.nil ?_
  refine VC.seq ?_
  refine VC.le _ (Le.pickH [1, 0] rfl rfl) ?_
  refine VC.region ?_
  refine VO.mw ?_
  refine VO.mw ?_
  refine VO.mw ?_
  refine VO.vv (OpV.makeFunc1 rfl rfl) ?_
  refine VO.op rfl (OpE.callH0 rfl hB rfl Tryz.call110 rfl rfl (plan_run hk Tryz.call111 times_does (a := List.replicate o.length default) ⟨by simp, rfl⟩) (List.Perm.refl _) (fun _ _ => trivial) ?_)
  rintro _ _ ⟨_, e1, e2, ⟨hll, rfl⟩, rfl, rfl⟩
  refine VO.le _ (Le.drop 2) ?_
  refine VO.nil ?_
  refine VC.seq ?_
  rw [runA_times]
  refine VC.region ?_
  refine VO.vv (OpV.load_own (i := 0) rfl hB Tryz.isAgg99 rfl rfl rfl (fun h => h)) ?_
  refine VO.mb ?_
  refine VO.mb ?_
  refine VO.nil ?_
  refine VC.ret ?_
  exact Exists.intro _ (And.intro (RetN.two Tryz.results42 (ResN.box (i := 1) rfl rfl (by rw [rowL_len, timesQ_len]; exact Nat.le_refl _) (Nat.le_refl _) (by simp only [maxLen]; omega) (flat_win _) (fun w Z u h => by simp only [Nat.zero_add] at h; exact Rep.rowL (timesQ_len _ _ _ _ _ _).symm h)) (ResN.v rfl)) (by rw [hE, h00]))
end
section
def panL : List PlaceS := [⟨⟨#[99]⟩, ⟨#[99, 97, 112]⟩, 0, 0, 0⟩]
def panP : ProdS := ⟨⟨#[112]⟩, 5, 5, panL⟩
theorem panP_sm : SmP panP := ⟨by decide, by decide, fun i => by
 match i with
 | 0 => decide
 | i + 1 => simp [panP, panL]; decide, fun i => by
 match i with
 | 0 => decide
 | i + 1 => simp [panP, panL]; decide⟩
theorem panP_ok : prodF panP = 0 := by decide +kernel
theorem panP_cnt : cntP panL = [(⟨#[99, 97, 112]⟩, 1)] := by decide +kernel
theorem panP_keys : sKeys [((⟨#[99, 97, 112]⟩ : ByteArray), (1 : Int))] = [⟨#[99, 97, 112]⟩] := by simp [sKeys, bytesOf]
theorem panP_needs : needsR panP = [⟨⟨#[99, 97, 112]⟩, 1⟩] := by
 rw [needsR, if_pos panP_ok, needsL]
 show List.map _ (sKeys (cntP panL)) = _
 rw [panP_cnt, panP_keys]
 simp [panP, panP_cnt, mgetD, mget]
end
section
theorem take_succ_getD {α : Type} {xs : List α} {q : Nat} {d : α} (h : q < xs.length) : xs.take (q + 1) = xs.take q ++ [xs.getD q d] := by
 rw [List.take_succ_eq_append_getElem h]
 simp [h]
end
section
def setsF (s : List ByteArray) (p : List (List ByteArray)) : Int := if setupF s ≠ 0 then setupF s else partsF s.length p
theorem setup_fault {s : List ByteArray} {p : List (List ByteArray)} (hs : SmS s) (hp : SmSS p) :
  SpecN Tryz.prog 166 [avStrs s, avM p] (fun y => y = avI (setsF s p)) := by
 refine SpecN.of_VCN Tryz.func166 rfl Tryz.ntmps166 (Nle rfl) fun w A hB => ?_
 refine VC.sr ?_
 refine VO.mb ?_
 refine VO.nil ?_
 refine VC.seq ?_
 refine VC.sr ?_
 refine VO.mw ?_
 refine VO.op rfl (OpE.call rfl hB rfl Tryz.call233 rfl (SpecN.spec (setup_CheckSetup hs)) ?_)
 rintro _ rfl
 refine VO.mb ?_
 refine VO.nil ?_
 refine VC.sr ?_
 refine VO.mw ?_
 refine VO.vv (OpV.neq rfl rfl rfl) ?_
 refine VO.nil ?_
 refine VC.cond rfl (fun h0b => ?_) (fun h0b => ?_)
 ·have h0 := h0b
  try simp only [qq] at h0
  refine VC.sr ?_
  refine VO.mw ?_
  refine VO.mb ?_
  refine VO.nil ?_
  refine VC.ret ?_
  exact Exists.intro _ (And.intro (RetN.one Tryz.results166 (ResN.v rfl)) (by first | rw [setsF, if_pos h0] | rw [setsF, if_neg (by omega)]))
 ·have h0 := h0b
  try simp only [qq] at h0
  refine VC.skip ?_
  refine VC.sr ?_
  refine VO.mw ?_
  refine VO.vv (OpV.len_im rfl Tryz.underlying82 rfl) ?_
  refine VO.mw ?_
  refine VO.op rfl (OpE.call rfl hB rfl Tryz.call234 rfl (SpecN.spec (setup_CheckParts hp)) ?_)
  rintro _ rfl
  refine VO.mb ?_
  refine VO.nil ?_
  refine VC.ret ?_
  exact Exists.intro _ (And.intro (RetN.one Tryz.results166 (ResN.v rfl)) (by first | rw [setsF, if_pos h0] | rw [setsF, if_neg (by omega)]))
theorem setup_missing {s p : List ByteArray} (hs : SmS s) (hp : SmS p) :
  SpecH Tryz.prog 313 [avStrs s, avStrs p] [] (fun y hp' => ∃ u, y = .v u ∧ hp' = [.row u ((missF s p).length) (1) (strsL (missF s p)) (9)]) := by
 have hl := hp.1
 refine SpecH.of_VC Tryz.func313 rfl Tryz.ntmps313 (Nle rfl) fun w A hB => ?_
 refine VC.sr ?_
 refine VO.mb ?_
 refine VO.nil ?_
 refine VC.sr ?_
 refine VO.mb ?_
 refine VO.nil ?_
 refine VC.seq ?_
 refine VC.sr ?_
 refine VO.mw ?_
 refine VO.vv (OpV.len_im rfl Tryz.underlying82 rfl) ?_
 refine VO.mw ?_
 refine VO.nil ?_
 refine VC.block ?_
 refine VC.le _ (Le.nilRow 1 9) ?_
 refine VC.loopK [(0, _), (8, _), (9, _)] ⟨rfl, rfl, rfl, trivial⟩ ({zz : Value × Nat // zz.2 ≤ p.length}) (fun (iZ : {zz : Value × Nat // zz.2 ≤ p.length}) => match iZ with | ⟨⟨u, q⟩, hq⟩ => [(5, .v u), (10, avI (q : Int))]) (fun (iZ : {zz : Value × Nat // zz.2 ≤ p.length}) => match iZ with | ⟨⟨u, q⟩, hq⟩ => [.row u (missF s (p.take q)).length 1 (strsL (missF s (p.take q))) 9]) (fun (iZ : {zz : Value × Nat // zz.2 ≤ p.length}) => match iZ with | ⟨⟨u, q⟩, hq⟩ => 0) (fun (iZ : {zz : Value × Nat // zz.2 ≤ p.length}) => match iZ with | ⟨⟨u, q⟩, hq⟩ => p.length - q) ⟨(.slice none 0 0, 0), Nat.zero_le _⟩ (Le.mk hB [0] ⟨rfl, rfl, rfl, rfl, rfl, trivial⟩ rfl rfl (Nat.le_refl _)) ?_
 rintro ⟨⟨u, q⟩, hq⟩
 show VC _ _ _ _ ⟨[(5, .v u), (10, avI (q : Int))] ++ [(0, _), (8, _), (9, _)], [.row u (missF s (p.take q)).length 1 (strsL (missF s (p.take q))) 9], 0⟩
 simp only at hq
 refine VC.sr ?_
 refine VO.vv (OpV.lss rfl rfl rfl) ?_
 refine VO.nil ?_
 refine VC.seq ?_
 refine VC.cond rfl (fun aH1b => ?_) (fun aH1b => ?_)
 ·have aH1 := aH1b
  try simp only [qq] at aH1
  refine VC.skip ?_
  refine VC.seq ?_
  refine VC.block ?_
  refine VC.sr ?_
  refine VO.vv (OpV.indexAddr_1 rfl Tryz.underlying82 Tryz.sizeOf9 rfl rfl rfl (by omega)) ?_
  refine VO.vv (OpV.load_at rfl hB OutW.no Tryz.isAgg9 rfl rfl) ?_
  refine VO.mb ?_
  refine VO.nil ?_
  refine VC.sr ?_
  refine VO.mw ?_
  refine VO.mw ?_
  refine VO.op rfl (OpE.call rfl hB rfl Tryz.call86 rfl (SpecN.spec (slices_Contains_str hs.1)) ?_)
  rintro _ rfl
  refine VO.vv (OpV.not rfl rfl) ?_
  refine VO.nil ?_
  refine VC.cond rfl (fun h1b => ?_) (fun h1b => ?_)
  ·have h1 := h1b
   try simp only [qq] at h1
   have e1 := missF_yes (s := s) (p := p) (q := q) (by omega) h1
   have hm1 : (missF s (p.take q)).length ≤ q := Nat.le_trans (List.length_filter_le _ _) (by simp; omega)
   refine VC.region ?_
   refine VO.mw ?_
   refine VO.mw ?_
   refine VO.op rfl (bS rfl hB rfl (by decide) rfl rfl ?_)
   refine VO.op rfl (OpE.append1 (i := 0) rfl hB rfl Tryz.underlying82 (infoOf Tryz.t9 1 (by kernel_rfl) rfl rfl) rfl (by decide) (by decide) rfl rfl rfl rfl (strsL_snoc _ _) (by omega) (fun _ _ => trivial) ?_)
   intro u2
   refine VO.mb ?_
   refine VO.nil ?_
   refine VC.region ?_
   refine VO.vv (OpV.add rfl rfl rfl (by unfold fits; omega)) ?_
   refine VO.mw ?_
   refine VO.nil ?_
   exact Exists.intro (⟨(u2, q + 1), by show _ ≤ _; omega⟩) (And.intro (Le.mk hB [0] ⟨rfl, rfl, rfl, rfl, rfl, trivial⟩ rfl (by dsimp only; first | (rw [e1]; rfl) | (rw [e1, List.length_append]; rfl)) (Nat.le_refl _)) (by first | omega | (show _ < _; omega) | (simp only []; omega)))
  ·have h1 := h1b
   try simp only [qq] at h1
   have e1 := missF_no (s := s) (p := p) (q := q) (by omega) h1
   refine VC.skip ?_
   refine VC.region ?_
   refine VO.vv (OpV.add rfl rfl rfl (by unfold fits; omega)) ?_
   refine VO.mw ?_
   refine VO.nil ?_
   exact Exists.intro (⟨(u, q + 1), by show _ ≤ _; omega⟩) (And.intro (Le.mk hB [0] ⟨rfl, rfl, rfl, rfl, rfl, trivial⟩ rfl (by dsimp only; first | (rw [e1]; rfl) | (rw [e1, List.length_append]; rfl)) (Nat.le_refl _)) (by first | omega | (show _ < _; omega) | (simp only []; omega)))
 ·have aH1 := aH1b
  try simp only [qq] at aH1
  obtain rfl : q = p.length := by omega
  rw [List.take_length]
  refine VC.exit ?_
  refine VC.sr ?_
  refine VO.mw ?_
  refine VO.mb ?_
  refine VO.nil ?_
  refine VC.le ⟨[(4, _)], [_], 0⟩ (Le.pick hB [0] ⟨rfl, trivial⟩ rfl rfl (Nat.le_refl _)) ?_
  refine VC.ret ?_
  exact Exists.intro _ (And.intro (RetV.one Tryz.results313 (ResV.tmp rfl)) (⟨_, rfl, rfl⟩))
theorem setup_missing_N {s p : List ByteArray} (hs : SmS s) (hp : SmS p) : SpecN Tryz.prog 313 [avStrs s, avStrs p] (fun y => y = avStrs (missF s p)) :=
 SpecN.ofRow (setup_missing hs hp) (flat_strs _) fun w Z u h => Rep.strs rfl h
theorem SmS.nil : SmS [] := ⟨by simp, fun i => by simp [List.getD_eq_getElem?_getD]⟩
theorem SmSS.one {p : List ByteArray} (hp : SmS p) : SmSS [p] := ⟨by simp, fun i => by cases i with | zero => exact hp | succ i => exact SmS.nil⟩
end
section
theorem missF_mem {s p : List ByteArray} {x : ByteArray} : x ∈ missF s p ↔ x ∈ p ∧ x ∉ s := by
 unfold missF
 rw [List.mem_filter]
 constructor
 ·rintro ⟨h1, h2⟩; exact ⟨h1, has_not.1 (by simpa using h2)⟩
 ·rintro ⟨h1, h2⟩; exact ⟨h1, by rw [has_not.2 h2]; rfl⟩
theorem missF_nodup {s p : List ByteArray} (h : p.Nodup) : (missF s p).Nodup := h.sublist List.filter_sublist
theorem missF_len (s p : List ByteArray) : (missF s p).length ≤ p.length := List.length_filter_le _ _
section
variable {parts : List ByteArray} {later : List (List ByteArray)}
theorem nextL_mem : ∀ (l s : List ByteArray) (x : ByteArray), x ∈ nextL parts later s l → x ∈ s ∨ x ∈ l
 | [], s, x, h => .inl h
 | y :: l, s, x, h => by
  rcases nextL_mem l _ x h with h1 | h1
  ·rcases List.mem_or_eq_of_mem_set h1 with h2 | h2
   ·exact .inl h2
   ·exact .inr (by simp [h2])
  ·exact .inr (by simp [h1])
theorem nextL_take_succ {s l : List ByteArray} {q : Nat} (h : q < l.length) : nextL parts later s (l.take (q + 1)) = (nextL parts later s (l.take q)).set (slotF (nextL parts later s (l.take q)) parts later).toNat (l.getD q ByteArray.empty) := by
 rw [take_succ_getD (d := ByteArray.empty) h, nextL_snoc]
theorem nextL_fits {s l : List ByteArray} (hf : Fits s parts) (hl : l.Nodup) (hs : ∀ x ∈ l, x ∉ s) : ∀ q, q ≤ l.length → Fits (nextL parts later s (l.take q)) parts
 | 0, _ => by simpa [nextL] using hf
 | q + 1, hq => by
  rw [nextL_take_succ (by omega)]
  refine (nextL_fits hf hl hs q (by omega)).set (fun hc => ?_) _
  have hx : l.getD q ByteArray.empty ∈ l := by simp [show q < l.length by omega]
  rcases nextL_mem _ _ _ hc with h1 | h1
  ·exact hs _ hx h1
  ·obtain ⟨j, hj, e⟩ := List.mem_iff_getElem.1 h1
   have hj' : j < q ∧ j < l.length := by simp at hj; omega
   rw [List.getElem_take] at e
   have hd := List.pairwise_iff_getElem.1 hl j q hj'.2 (by omega) hj'.1
   apply hd
   rw [e]
   simp [show q < l.length by omega]
theorem nextL_not {s l : List ByteArray} (hl : l.Nodup) (hs : ∀ x ∈ l, x ∉ s) {q : Nat} (hq : q < l.length) : l.getD q ByteArray.empty ∉ nextL parts later s (l.take q) := fun hc => by
 have hx : l.getD q ByteArray.empty ∈ l := by simp [hq]
 rcases nextL_mem _ _ _ hc with h1 | h1
 ·exact hs _ hx h1
 ·obtain ⟨j, hj, e⟩ := List.mem_iff_getElem.1 h1
  have hj' : j < q ∧ j < l.length := by simp at hj; omega
  rw [List.getElem_take] at e
  have hd := List.pairwise_iff_getElem.1 hl j q hj'.2 (by omega) hj'.1
  apply hd
  rw [e]
  simp [hq]
end
theorem slotF_of_neg {s parts : List ByteArray} {later : List (List ByteArray)} (h : fidx (fun x => sEq ε x) s < 0) : slotF s parts later = (vic s parts later s.length).1 := by rw [slotF, if_pos h]
theorem slotF_of_pos {s parts : List ByteArray} {later : List (List ByteArray)} (h : 0 ≤ fidx (fun x => sEq ε x) s) : slotF s parts later = fidx (fun x => sEq ε x) s := by rw [slotF, if_neg (by omega)]
theorem keyF_size {x : ByteArray} (h : keyF x = true) : 1 ≤ x.size ∧ x.size ≤ 40 := by
 unfold keyF at h
 simp only [Bool.and_eq_true, decide_eq_true_eq] at h
 exact ⟨h.1.1.1, h.1.1.2⟩
theorem canE_key {l : List ByteArray} {i : Nat} (h : canE l i = 0) : keyF (l.getD i ByteArray.empty) = true := by
 cases hk : keyF (l.getD i ByteArray.empty) with
 | true => rfl
 | false => rw [canE_5 hk] at h; cases h
theorem canE_lt {l : List ByteArray} {i : Nat} (h : canE l i = 0) (h0 : 0 < i) : sLt (l.getD (i - 1) ByteArray.empty) (l.getD i ByteArray.empty) = true := by
 have hk := canE_key h
 cases hs : sLe (l.getD i ByteArray.empty) (l.getD (i - 1) ByteArray.empty) with
 | true => rw [canE_7 hk h0 hs] at h; cases h
 | false => exact sLt_of_not hs
theorem can_sort {l : List ByteArray} (h : ∀ j, j < l.length → canE l j = 0) : SortS l := by
 intro a b hab hb
 induction b with
 | zero => omega
 | succ b ih =>
  have h1 := canE_lt (h (b + 1) hb) (by omega)
  simp only [Nat.add_sub_cancel] at h1
  by_cases e : a = b
  ·subst e; exact h1
  ·exact sLt_trans (ih (by omega) (by omega)) h1
theorem sort_nodup {l : List ByteArray} (h : SortS l) : l.Nodup := by
 rw [List.Nodup, List.pairwise_iff_getElem]
 intro i j hi hj hij e
 have := h i j hij hj
 simp only [List.getD_eq_getElem?_getD, List.getElem?_eq_getElem hi, List.getElem?_eq_getElem hj, Option.getD_some, e] at this
 rw [sLt_irr] at this; cases this
theorem getD_mem {l : List ByteArray} {x : ByteArray} (h : x ∈ l) : ∃ j, j < l.length ∧ l.getD j ByteArray.empty = x := by
 obtain ⟨j, hj, rfl⟩ := List.mem_iff_getElem.1 h
 exact ⟨j, hj, by simp [hj]⟩
theorem size_getD {l : List ByteArray} {m : Nat} (h : ∀ x ∈ l, x.size ≤ m) (i : Nat) : (l.getD i ByteArray.empty).size ≤ m := by
 by_cases hi : i < l.length
 ·have := h _ (List.getElem_mem hi)
  simpa [hi] using this
 ·simp [List.getD_eq_getElem?_getD, List.getElem?_eq_none (by omega : l.length ≤ i)]
structure RightP (n : Nat) (l : List ByteArray) : Prop where
 len : l.length ≤ n
 can : ∀ j, j < l.length → canE l j = 0
theorem RightP.of {n : Int} {m : Nat} (hn : n = m) {p : List (List ByteArray)} (h : partsF n p = 0) {q : Nat} (hq : q < p.length) : RightP m (p.getD q default) := by
 obtain ⟨_, _, h3⟩ := partsF_zero h
 obtain ⟨k1, k2⟩ := partE_zero (h3 q hq)
 exact ⟨by omega, k2⟩
theorem RightP.nil (n : Nat) : RightP n [] := ⟨by simp, fun j hj => by simp at hj⟩
section
variable {n : Nat} {l s : List ByteArray}
theorem RightP.keys (h : RightP n l) : ∀ x ∈ l, 1 ≤ x.size ∧ x.size ≤ 40 := fun x hx => by
 obtain ⟨j, hj, rfl⟩ := getD_mem hx
 exact keyF_size (canE_key (h.can j hj))
theorem RightP.sms (h : RightP n l) (hn : n ≤ 1000000000) : SmS l := ⟨by have := h.len; omega, size_getD fun x hx => by have := h.keys x hx; omega⟩
theorem setup_once (h : setupF s = 0) : ∀ i j, i < j → j < s.length → s.getD i ByteArray.empty = s.getD j ByteArray.empty → s.getD j ByteArray.empty = ε := fun i j hij hj e => by
 have h0 := setupF_zero h j hj
 cases he : sEq (s.getD j ByteArray.empty) ε with
 | true => exact sEq_eq.1 he
 | false =>
  exfalso
  cases hk : keyF (s.getD j ByteArray.empty) with
  | false => rw [setupE_5 he hk] at h0; cases h0
  | true =>
   have hh : has (s.take j) (s.getD j ByteArray.empty) = true := by
    rw [has_iff, ← e]
    have hi : i < (s.take j).length := by simp; omega
    have : (s.take j)[i] = s.getD i ByteArray.empty := by simp [show i < s.length by omega]
    rw [← this]; exact List.getElem_mem hi
   rw [setupE_6 he hk hh] at h0; cases h0
theorem setup_size (h : setupF s = 0) : ∀ x ∈ s, x.size ≤ 40 := fun x hx => by
 obtain ⟨j, hj, rfl⟩ := getD_mem hx
 have h0 := setupF_zero h j hj
 cases he : sEq (s.getD j ByteArray.empty) ε with
 | true => rw [sEq_eq.1 he]; decide
 | false =>
  cases hk : keyF (s.getD j ByteArray.empty) with
  | false => rw [setupE_5 he hk] at h0; cases h0
  | true => exact (keyF_size hk).2
theorem RightP.fits (h : RightP s.length l) (ho : ∀ i j, i < j → j < s.length → s.getD i ByteArray.empty = s.getD j ByteArray.empty → s.getD j ByteArray.empty = ε) : Fits s l :=
 ⟨ho, h.len, fun x hx e => by have := h.keys x hx; rw [e] at this; exact absurd this.1 (by decide), sort_nodup (can_sort h.can)⟩
end
structure Good' (s : List ByteArray) : Prop where
 pos : 0 < s.length
 len : s.length ≤ 100
 once : ∀ i j, i < j → j < s.length → s.getD i ByteArray.empty = s.getD j ByteArray.empty → s.getD j ByteArray.empty = ε
 size : ∀ x ∈ s, x.size ≤ 40
theorem Good'.of {s : List ByteArray} (h : setupF s = 0) : Good' s := ⟨(setupF_len h).1, (setupF_len h).2, setup_once h, setup_size h⟩
theorem Good'.sms {s : List ByteArray} (h : Good' s) : SmS s := ⟨by have := h.len; omega, size_getD fun x hx => by have := h.size x hx; omega⟩
theorem Good'.next {s l : List ByteArray} (h : Good' s) (hl : RightP s.length l) (later : List (List ByteArray)) (q : Nat) (hq : q ≤ (missF s l).length) : Good' (nextL l later s ((missF s l).take q)) := by
 have hf := hl.fits h.once
 have hn := nextL_fits (later := later) hf (missF_nodup hf.pnd) (fun x hx => (missF_mem.1 hx).2) q hq
 refine ⟨by rw [nextL_len]; exact h.pos, by rw [nextL_len]; exact h.len, hn.once, fun x hx => ?_⟩
 rcases nextL_mem _ _ _ hx with h1 | h1
 ·exact h.size x h1
 ·exact (hl.keys x (missF_mem.1 (List.mem_of_mem_take h1)).1).2
theorem Good'.nextF {s l : List ByteArray} (h : Good' s) (hl : RightP s.length l) (later : List (List ByteArray)) : Good' (nextF s l later) := by
 have := h.next hl later (missF s l).length (Nat.le_refl _)
 rwa [List.take_length] at this
theorem nextF_len (s l : List ByteArray) (later : List (List ByteArray)) : (nextF s l later).length = s.length := nextL_len _ _ _ _
def stF (s : List ByteArray) (p : List (List ByteArray)) : Nat → List ByteArray
 | 0 => s
 | q + 1 => nextF (stF s p q) (p.getD q default) (p.drop (q + 1))
def totF (s : List ByteArray) (p : List (List ByteArray)) : Nat → Int
 | 0 => 0
 | q + 1 => totF s p q + (missF (stF s p q) (p.getD q default)).length
theorem stF_len (s : List ByteArray) (p : List (List ByteArray)) : ∀ q, (stF s p q).length = s.length
 | 0 => rfl
 | q + 1 => by rw [stF, nextF_len, stF_len s p q]
theorem stF_good {s : List ByteArray} {p : List (List ByteArray)} (h : Good' s) (hp : ∀ q, q < p.length → RightP s.length (p.getD q default)) : ∀ q, q ≤ p.length → Good' (stF s p q)
 | 0, _ => h
 | q + 1, hq => (stF_good h hp q (by omega)).nextF (by rw [stF_len]; exact hp q (by omega)) _
theorem totF_in {s : List ByteArray} {p : List (List ByteArray)} (hs : s.length ≤ 100) (hp : ∀ q, q < p.length → RightP s.length (p.getD q default)) : ∀ q, q ≤ p.length → 0 ≤ totF s p q ∧ totF s p q ≤ 100 * q
 | 0, _ => by simp [totF]
 | q + 1, hq => by
  have ih := totF_in hs hp q (by omega)
  have h1 := missF_len (stF s p q) (p.getD q default)
  have h2 := (hp q (by omega)).len
  rw [totF]
  omega
theorem totF_mono {s : List ByteArray} {p : List (List ByteArray)} {a b : Nat} (h : a ≤ b) : totF s p a ≤ totF s p b := by
 induction b with
 | zero => rw [show a = 0 by omega]; exact Int.le_refl _
 | succ b ih =>
  by_cases e : a = b + 1
  ·rw [e]; exact Int.le_refl _
  ·have := ih (by omega)
   rw [totF]; omega
def totalF (s : List ByteArray) (p : List (List ByteArray)) (most : Int) : Int := if p.length = 0 then 0 else if most ≤ totF s p p.length then most else totF s p p.length
end
section
theorem slices_IndexFunc_LL {xs : List (List ByteArray)} {F : FuncId} {cs : List AV} {p : List ByteArray → Bool} (hl : xs.length ≤ 1000000000) (hcall : ∀ us w, (callFunc F us).run Tryz.prog w = .ok (.enter F us) w) (hF : ∀ i, i < xs.length → Spec Tryz.prog F ([avStrs (xs.getD i default)] ++ cs) (fun y => y = avB (p (xs.getD i default)))) :
  SpecN Tryz.prog 387 [avM xs, .fn F cs] (fun y => y = avI (fidx p xs)) := by
 refine SpecN.of_VCN Tryz.func387 rfl Tryz.ntmps387 (Nle rfl) fun w A hB => ?_
 refine VC.sr ?_
 refine VO.mb ?_
 refine VO.nil ?_
 refine VC.seq ?_
 refine VC.sr ?_
 refine VO.mw ?_
 refine VO.vv (OpV.len_im rfl Tryz.underlying169 rfl) ?_
 refine VO.mw ?_
 refine VO.nil ?_
 refine VC.block ?_
 refine VC.loopK [(0, _), (1, _), (7, _)] ⟨rfl, rfl, rfl, trivial⟩ ({q : Nat // q ≤ xs.length ∧ ∀ j, j < q → p (xs.getD j default) = false}) (fun (iZ : {q : Nat // q ≤ xs.length ∧ ∀ j, j < q → p (xs.getD j default) = false}) => match iZ with | ⟨q, hq, hn⟩ => [(8, avI (q : Int))]) (fun (iZ : {q : Nat // q ≤ xs.length ∧ ∀ j, j < q → p (xs.getD j default) = false}) => match iZ with | ⟨q, hq, hn⟩ => []) (fun (iZ : {q : Nat // q ≤ xs.length ∧ ∀ j, j < q → p (xs.getD j default) = false}) => match iZ with | ⟨q, hq, hn⟩ => 0) (fun (iZ : {q : Nat // q ≤ xs.length ∧ ∀ j, j < q → p (xs.getD j default) = false}) => match iZ with | ⟨q, hq, hn⟩ => xs.length - q) ⟨0, Nat.zero_le _, fun j hj => absurd hj (Nat.not_lt_zero j)⟩ (Le.mk hB [] ⟨rfl, rfl, rfl, rfl, trivial⟩ rfl rfl (Nat.le_refl _)) ?_
 rintro ⟨q, hq, hn⟩
 show VC _ _ _ _ ⟨[(8, avI (q : Int))] ++ [(0, _), (1, _), (7, _)], [], 0⟩
 refine VC.sr ?_
 refine VO.vv (OpV.lss rfl rfl rfl) ?_
 refine VO.nil ?_
 refine VC.seq ?_
 refine VC.cond rfl (fun aH1b => ?_) (fun aH1b => ?_)
 ·have aH1 := aH1b
  try simp only [qq] at aH1
  refine VC.skip ?_
  refine VC.seq ?_
  refine VC.block ?_
  refine VC.sr ?_
  refine VO.mw ?_
  refine VO.mb ?_
  refine VO.nil ?_
  refine VC.sr ?_
  refine VO.mw ?_
  refine VO.mw ?_
  refine VO.mw ?_
  refine VO.vv (OpV.indexAddr_1 rfl Tryz.underlying169 Tryz.sizeOf82 rfl rfl rfl (by omega)) ?_
  refine VO.vv (OpV.load_at rfl hB OutW.no Tryz.isAgg82 rfl rfl) ?_
  refine VO.op rfl (OpE.callF rfl hB rfl hcall rfl rfl (hF q (by omega)) ?_)
  rintro _ rfl
  refine VO.nil ?_
  refine VC.cond rfl (fun aH2b => ?_) (fun aH2b => ?_)
  ·have aH2 := aH2b
   try simp only [qq] at aH2
   refine VC.sr ?_
   refine VO.mw ?_
   refine VO.mb ?_
   refine VO.nil ?_
   refine VC.ret ?_
   exact Exists.intro _ (And.intro (RetN.one Tryz.results387 (ResN.v rfl)) (by first | (rw [fidx_found (d := default) (q := q) (by omega) hn (by assumption)]) | (rw [fidx_none (d := default) (fun j hj => hn j (by omega))])))
  ·have aH2 := aH2b
   try simp only [qq] at aH2
   refine VC.skip ?_
   refine VC.region ?_
   refine VO.vv (OpV.add rfl rfl rfl (by unfold fits; omega)) ?_
   refine VO.mw ?_
   refine VO.nil ?_
   exact Exists.intro (⟨q + 1, by omega, lt_succ_cases hn (by assumption)⟩) (And.intro (Le.mk hB [] ⟨rfl, rfl, rfl, rfl, trivial⟩ rfl rfl (Nat.le_refl _)) (by first | omega | (show _ < _; omega) | (simp only []; omega)))
 ·have aH1 := aH1b
  try simp only [qq] at aH1
  refine VC.exit ?_
  refine VC.sr ?_
  refine VO.mb ?_
  refine VO.nil ?_
  refine VC.ret ?_
  exact Exists.intro _ (And.intro (RetN.one Tryz.results387 (ResN.v rfl)) (by first | (rw [fidx_found (d := default) (q := q) (by omega) hn (by assumption)]) | (rw [fidx_none (d := default) (fun j hj => hn j (by omega))])))
theorem setup_needed1 {l : List ByteArray} {x : ByteArray} (hl : l.length ≤ 1000000000) :
  SpecN Tryz.prog 388 [avStrs l, .at_ 1 (fun _ => avS x)] (fun y => y = avB (has l x)) := by
 refine SpecN.of_VCN Tryz.func388 rfl Tryz.ntmps388 (Nle rfl) fun w A hB => ?_
 refine VC.sr ?_
 refine VO.mb ?_
 refine VO.nil ?_
 refine VC.sr ?_
 refine VO.mw ?_
 refine VO.vv (OpV.load_at rfl hB OutW.no Tryz.isAgg9 rfl rfl) ?_
 refine VO.op rfl (OpE.call rfl hB rfl Tryz.call86 rfl (SpecN.spec (slices_Contains_str hl)) ?_)
 rintro _ rfl
 refine VO.mb ?_
 refine VO.nil ?_
 refine VC.ret ?_
 exact Exists.intro _ (And.intro (RetN.one Tryz.results388 (ResN.v rfl)) (rfl))
theorem setup_needed {x : ByteArray} {later : List (List ByteArray)} (hp : SmSS later) :
  SpecN Tryz.prog 366 [avS x, avM later] (fun y => y = avI (needF x later)) := by
 have hl := hp.1
 refine SpecN.of_VCN Tryz.func366 rfl Tryz.ntmps366 (Nle rfl) fun w A hB => ?_
 refine VC.sr ?_
 refine VO.op rfl (OpE.box rfl hB rfl rfl rfl ?_)
 intro g2
 refine VO.mb ?_
 refine VO.nil ?_
 refine VC.seq ?_
 refine VC.sr ?_
 refine VO.mw ?_
 refine VO.vv (OpV.makeFunc1 rfl rfl) ?_
 refine VO.op rfl (OpE.callL rfl hB rfl Tryz.call387 (slices_IndexFunc_LL (p := fun l => has l x) hl Tryz.call388 (fun i hi => (setup_needed1 (hp.2 i).1).spec)) (ArgsP.cons (ArgP.ev rfl) (ArgsP.cons (ArgP.fn1 (i := 0) (m := 1) (f := fun _ => avS x) rfl rfl (Nle rfl) (lt1 rfl)) (ArgsP.nil))) ?_)
 rintro _ rfl
 refine VO.mb ?_
 refine VO.nil ?_
 refine VC.sr ?_
 refine VO.mw ?_
 refine VO.vv (OpV.geq rfl rfl rfl) ?_
 refine VO.nil ?_
 refine VC.cond rfl (fun h0b => ?_) (fun h0b => ?_)
 ·have h0 := h0b
  try simp only [qq] at h0
  refine VC.sr ?_
  refine VO.mw ?_
  refine VO.mb ?_
  refine VO.nil ?_
  refine VC.ret ?_
  exact Exists.intro _ (And.intro (RetN.one Tryz.results366 (ResN.v rfl)) (by first | rw [needF, if_pos h0] | rw [needF, if_neg (by omega)]))
 ·have h0 := h0b
  try simp only [qq] at h0
  refine VC.skip ?_
  refine VC.sr ?_
  refine VO.mw ?_
  refine VO.vv (OpV.len_im rfl Tryz.underlying169 rfl) ?_
  refine VO.mb ?_
  refine VO.nil ?_
  refine VC.ret ?_
  exact Exists.intro _ (And.intro (RetN.one Tryz.results366 (ResN.v rfl)) (by first | rw [needF, if_pos h0] | rw [needF, if_neg (by omega)]))
theorem setup_victim {s parts : List ByteArray} {later : List (List ByteArray)} (hs : s.length ≤ 1000000000) (hp : parts.length ≤ 1000000000) (hl : SmSS later) :
  SpecN Tryz.prog 314 [avStrs s, avStrs parts, avM later] (fun y => y = avI (vic s parts later s.length).1) := by
 have hll := hl.1
 refine SpecN.of_VCN Tryz.func314 rfl Tryz.ntmps314 (Nle rfl) fun w A hB => ?_
 refine VC.sr ?_
 refine VO.mb ?_
 refine VO.nil ?_
 refine VC.sr ?_
 refine VO.mb ?_
 refine VO.mb ?_
 refine VO.nil ?_
 refine VC.seq ?_
 refine VC.sr ?_
 refine VO.mw ?_
 refine VO.vv (OpV.len_im rfl Tryz.underlying82 rfl) ?_
 refine VO.mw ?_
 refine VO.nil ?_
 refine VC.block ?_
 refine VC.loopK [(0, _), (1, _), (2, _), (12, _), (13, _)] ⟨rfl, rfl, rfl, rfl, rfl, trivial⟩ ({q : Nat // q ≤ s.length}) (fun (iZ : {q : Nat // q ≤ s.length}) => match iZ with | ⟨q, hq⟩ => [(7, avI (vic s parts later q).1), (8, avI (vic s parts later q).2), (14, avI (q : Int))]) (fun (iZ : {q : Nat // q ≤ s.length}) => match iZ with | ⟨q, hq⟩ => []) (fun (iZ : {q : Nat // q ≤ s.length}) => match iZ with | ⟨q, hq⟩ => 0) (fun (iZ : {q : Nat // q ≤ s.length}) => match iZ with | ⟨q, hq⟩ => s.length - q) ⟨0, Nat.zero_le _⟩ (Le.mk hB [] ⟨rfl, rfl, rfl, rfl, rfl, rfl, rfl, rfl, trivial⟩ rfl rfl (Nat.le_refl _)) ?_
 rintro ⟨q, hq⟩
 show VC _ _ _ _ ⟨[(7, avI (vic s parts later q).1), (8, avI (vic s parts later q).2), (14, avI (q : Int))] ++ [(0, _), (1, _), (2, _), (12, _), (13, _)], [], 0⟩
 refine VC.sr ?_
 refine VO.vv (OpV.lss rfl rfl rfl) ?_
 refine VO.nil ?_
 refine VC.seq ?_
 refine VC.cond rfl (fun aH1b => ?_) (fun aH1b => ?_)
 ·have aH1 := aH1b
  try simp only [qq] at aH1
  refine VC.skip ?_
  refine VC.seq ?_
  refine VC.block ?_
  refine VC.sr ?_
  refine VO.mw ?_
  refine VO.vv (OpV.indexAddr_1 rfl Tryz.underlying82 Tryz.sizeOf9 rfl rfl rfl (by omega)) ?_
  refine VO.vv (OpV.load_at rfl hB OutW.no Tryz.isAgg9 rfl rfl) ?_
  refine VO.mb ?_
  refine VO.mb ?_
  refine VO.nil ?_
  refine VC.seq ?_
  refine VC.sr ?_
  refine VO.mw ?_
  refine VO.mw ?_
  refine VO.op rfl (OpE.call rfl hB rfl Tryz.call86 rfl (SpecN.spec (slices_Contains_str hp)) ?_)
  rintro _ rfl
  refine VO.nil ?_
  refine VC.cond rfl (fun h1b => ?_) (fun h1b => ?_)
  ·have h1 := h1b
   try simp only [qq] at h1
   refine VC.exit ?_
   refine VC.region ?_
   refine VO.vv (OpV.add rfl rfl rfl (by unfold fits; omega)) ?_
   refine VO.mw ?_
   refine VO.nil ?_
   exact Exists.intro (⟨q + 1, by omega⟩) (And.intro (Le.mk hB [] ⟨(by dsimp only; first | (rw [vic_has h1]; rfl) | (rw [vic_new h1 (.inl (by assumption))]; rfl) | (rw [vic_new h1 (.inr ⟨by assumption, not_true_false h2b⟩)]; rfl) | (rw [vic_old (s := s) (parts := parts) (later := later) (q := q) h1 (by rintro (h8 | ⟨h8, h9⟩); exact absurd h8 (by omega); exact absurd (h9.symm.trans (not_false_true h2b)) Bool.false_ne_true)]; rfl) | (rw [vic_old (s := s) (parts := parts) (later := later) (q := q) h1 (by rintro (h8 | ⟨h8, h9⟩); omega; omega)]; rfl)), (by dsimp only; first | (rw [vic_has h1]; rfl) | (rw [vic_new h1 (.inl (by assumption))]; rfl) | (rw [vic_new h1 (.inr ⟨by assumption, not_true_false h2b⟩)]; rfl) | (rw [vic_old (s := s) (parts := parts) (later := later) (q := q) h1 (by rintro (h8 | ⟨h8, h9⟩); exact absurd h8 (by omega); exact absurd (h9.symm.trans (not_false_true h2b)) Bool.false_ne_true)]; rfl) | (rw [vic_old (s := s) (parts := parts) (later := later) (q := q) h1 (by rintro (h8 | ⟨h8, h9⟩); omega; omega)]; rfl)), rfl, rfl, rfl, rfl, rfl, rfl, trivial⟩ rfl rfl (Nat.le_refl _)) (by first | omega | (show _ < _; omega) | (simp only []; omega)))
  ·have h1 := h1b
   try simp only [qq] at h1
   refine VC.skip ?_
   refine VC.sr ?_
   refine VO.mw ?_
   refine VO.mw ?_
   refine VO.op rfl (OpE.call rfl hB rfl Tryz.call366 rfl (SpecN.spec (setup_needed hl)) ?_)
   rintro _ rfl
   refine VO.mb ?_
   refine VO.nil ?_
   refine VC.sr ?_
   refine VO.mw ?_
   refine VO.mw ?_
   refine VO.vv (OpV.gtr rfl rfl rfl) ?_
   refine VO.mw ?_
   refine VO.opG rfl rfl rfl rfl (fun aK2b => ?_) (fun aK2b => ?_)
   ·replace aK2b : _ = false := aK2b
    have aK2 := aK2b
    try simp only [qq] at aK2
    refine OpE.val (W := NoB) (OpV.move (.inl rfl) rfl) rfl ?_
    refine VO.opY rfl rfl rfl rfl aK2b ?_
    refine OpE.val (W := NoB) (OpV.move (.inl rfl) rfl) rfl ?_
    refine VO.opY rfl rfl rfl rfl aK2b ?_
    refine OpE.val (W := NoB) (OpV.eql rfl rfl rfl) rfl ?_
    refine VO.opY rfl rfl rfl rfl aK2b ?_
    refine OpE.val (W := NoB) (OpV.move (.inl rfl) rfl) rfl ?_
    refine VO.opG rfl rfl rfl rfl (fun aK3b => ?_) (fun aK3b => ?_)
    ·replace aK3b : _ = true := aK3b
     have aK3 := aK3b
     try simp only [qq] at aK3
     refine OpE.val (W := NoB) (OpV.move (.inl rfl) rfl) rfl ?_
     refine VO.opY rfl rfl rfl rfl aK3b ?_
     refine OpE.val (W := NoB) (OpV.move (.inl rfl) rfl) rfl ?_
     refine VO.opY rfl rfl rfl rfl aK3b ?_
     refine OpE.val (W := NoB) (OpV.move (.inl rfl) rfl) rfl ?_
     refine VO.opY rfl rfl rfl rfl aK3b ?_
     refine OpE.val (W := NoB) (OpV.indexAddr_1 rfl Tryz.underlying82 Tryz.sizeOf9 rfl rfl (Int.toNat_of_nonneg (vic_tie (by assumption)).1).symm (by have h7 := vic_tie (s := s) (parts := parts) (by assumption); omega)) rfl ?_
     refine VO.opY rfl rfl rfl rfl aK3b ?_
     refine OpE.val (W := NoB) (OpV.load_at rfl hB OutW.no Tryz.isAgg9 rfl rfl) rfl ?_
     refine VO.opY rfl rfl rfl rfl aK3b ?_
     refine OpE.val (W := NoB) (OpV.sgtr rfl rfl rfl) rfl ?_
     refine VO.opY rfl rfl rfl rfl aK2b ?_
     refine OpE.val (W := NoB) (OpV.pickT rfl rfl rfl rfl aK3b) rfl ?_
     refine VO.vv (OpV.pickF rfl rfl rfl rfl aK2b) ?_
     refine VO.nil ?_
     refine VC.cond rfl (fun h2b => ?_) (fun h2b => ?_)
     ·have h2 := h2b
      try simp only [qq] at h2
      refine VC.region ?_
      refine VO.mw ?_
      refine VO.mw ?_
      refine VO.mb ?_
      refine VO.mb ?_
      refine VO.nil ?_
      refine VC.region ?_
      refine VO.vv (OpV.add rfl rfl rfl (by unfold fits; omega)) ?_
      refine VO.mw ?_
      refine VO.nil ?_
      exact Exists.intro (⟨q + 1, by omega⟩) (And.intro (Le.mk hB [] ⟨(by dsimp only; first | (rw [vic_has h1]; rfl) | (rw [vic_new h1 (.inl (by assumption))]; rfl) | (rw [vic_new h1 (.inr ⟨by assumption, not_true_false h2b⟩)]; rfl) | (rw [vic_old (s := s) (parts := parts) (later := later) (q := q) h1 (by rintro (h8 | ⟨h8, h9⟩); exact absurd h8 (by omega); exact absurd (h9.symm.trans (not_false_true h2b)) Bool.false_ne_true)]; rfl) | (rw [vic_old (s := s) (parts := parts) (later := later) (q := q) h1 (by rintro (h8 | ⟨h8, h9⟩); omega; omega)]; rfl)), (by dsimp only; first | (rw [vic_has h1]; rfl) | (rw [vic_new h1 (.inl (by assumption))]; rfl) | (rw [vic_new h1 (.inr ⟨by assumption, not_true_false h2b⟩)]; rfl) | (rw [vic_old (s := s) (parts := parts) (later := later) (q := q) h1 (by rintro (h8 | ⟨h8, h9⟩); exact absurd h8 (by omega); exact absurd (h9.symm.trans (not_false_true h2b)) Bool.false_ne_true)]; rfl) | (rw [vic_old (s := s) (parts := parts) (later := later) (q := q) h1 (by rintro (h8 | ⟨h8, h9⟩); omega; omega)]; rfl)), rfl, rfl, rfl, rfl, rfl, rfl, trivial⟩ rfl rfl (Nat.le_refl _)) (by first | omega | (show _ < _; omega) | (simp only []; omega)))
     ·have h2 := h2b
      try simp only [qq] at h2
      refine VC.skip ?_
      refine VC.region ?_
      refine VO.vv (OpV.add rfl rfl rfl (by unfold fits; omega)) ?_
      refine VO.mw ?_
      refine VO.nil ?_
      exact Exists.intro (⟨q + 1, by omega⟩) (And.intro (Le.mk hB [] ⟨(by dsimp only; first | (rw [vic_has h1]; rfl) | (rw [vic_new h1 (.inl (by assumption))]; rfl) | (rw [vic_new h1 (.inr ⟨by assumption, not_true_false h2b⟩)]; rfl) | (rw [vic_old (s := s) (parts := parts) (later := later) (q := q) h1 (by rintro (h8 | ⟨h8, h9⟩); exact absurd h8 (by omega); exact absurd (h9.symm.trans (not_false_true h2b)) Bool.false_ne_true)]; rfl) | (rw [vic_old (s := s) (parts := parts) (later := later) (q := q) h1 (by rintro (h8 | ⟨h8, h9⟩); omega; omega)]; rfl)), (by dsimp only; first | (rw [vic_has h1]; rfl) | (rw [vic_new h1 (.inl (by assumption))]; rfl) | (rw [vic_new h1 (.inr ⟨by assumption, not_true_false h2b⟩)]; rfl) | (rw [vic_old (s := s) (parts := parts) (later := later) (q := q) h1 (by rintro (h8 | ⟨h8, h9⟩); exact absurd h8 (by omega); exact absurd (h9.symm.trans (not_false_true h2b)) Bool.false_ne_true)]; rfl) | (rw [vic_old (s := s) (parts := parts) (later := later) (q := q) h1 (by rintro (h8 | ⟨h8, h9⟩); omega; omega)]; rfl)), rfl, rfl, rfl, rfl, rfl, rfl, trivial⟩ rfl rfl (Nat.le_refl _)) (by first | omega | (show _ < _; omega) | (simp only []; omega)))
    ·replace aK3b : _ = false := aK3b
     have aK3 := aK3b
     try simp only [qq] at aK3
     refine VO.opX rfl rfl rfl rfl aK3b ?_
     refine VO.opX rfl rfl rfl rfl aK3b ?_
     refine VO.opX rfl rfl rfl rfl aK3b ?_
     refine VO.opX rfl rfl rfl rfl aK3b ?_
     refine VO.opX rfl rfl rfl rfl aK3b ?_
     refine VO.opY rfl rfl rfl rfl aK2b ?_
     refine OpE.val (W := NoB) (OpV.pickF rfl rfl rfl rfl aK3b) rfl ?_
     refine VO.vv (OpV.pickF rfl rfl rfl rfl aK2b) ?_
     refine VO.nil ?_
     refine VC.condF rfl rfl ?_
     refine VC.skip ?_
     refine VC.region ?_
     refine VO.vv (OpV.add rfl rfl rfl (by unfold fits; omega)) ?_
     refine VO.mw ?_
     refine VO.nil ?_
     exact Exists.intro (⟨q + 1, by omega⟩) (And.intro (Le.mk hB [] ⟨(by dsimp only; first | (rw [vic_has h1]; rfl) | (rw [vic_new h1 (.inl (by assumption))]; rfl) | (rw [vic_new h1 (.inr ⟨by assumption, not_true_false h2b⟩)]; rfl) | (rw [vic_old (s := s) (parts := parts) (later := later) (q := q) h1 (by rintro (h8 | ⟨h8, h9⟩); exact absurd h8 (by omega); exact absurd (h9.symm.trans (not_false_true h2b)) Bool.false_ne_true)]; rfl) | (rw [vic_old (s := s) (parts := parts) (later := later) (q := q) h1 (by rintro (h8 | ⟨h8, h9⟩); omega; omega)]; rfl)), (by dsimp only; first | (rw [vic_has h1]; rfl) | (rw [vic_new h1 (.inl (by assumption))]; rfl) | (rw [vic_new h1 (.inr ⟨by assumption, not_true_false h2b⟩)]; rfl) | (rw [vic_old (s := s) (parts := parts) (later := later) (q := q) h1 (by rintro (h8 | ⟨h8, h9⟩); exact absurd h8 (by omega); exact absurd (h9.symm.trans (not_false_true h2b)) Bool.false_ne_true)]; rfl) | (rw [vic_old (s := s) (parts := parts) (later := later) (q := q) h1 (by rintro (h8 | ⟨h8, h9⟩); omega; omega)]; rfl)), rfl, rfl, rfl, rfl, rfl, rfl, trivial⟩ rfl rfl (Nat.le_refl _)) (by first | omega | (show _ < _; omega) | (simp only []; omega)))
   ·replace aK2b : _ = true := aK2b
    have aK2 := aK2b
    try simp only [qq] at aK2
    refine VO.opX rfl rfl rfl rfl aK2b ?_
    refine VO.opX rfl rfl rfl rfl aK2b ?_
    refine VO.opX rfl rfl rfl rfl aK2b ?_
    refine VO.opU rfl rfl rfl rfl ?_
    refine VO.opU rfl rfl rfl rfl ?_
    refine VO.opU rfl rfl rfl rfl ?_
    refine VO.opU rfl rfl rfl rfl ?_
    refine VO.opU rfl rfl rfl rfl ?_
    refine VO.opU rfl rfl rfl rfl ?_
    refine VO.opX rfl rfl rfl rfl aK2b ?_
    refine VO.vv (OpV.pickT rfl rfl rfl rfl aK2b) ?_
    refine VO.nil ?_
    refine VC.condT rfl rfl ?_
    refine VC.region ?_
    refine VO.mw ?_
    refine VO.mw ?_
    refine VO.mb ?_
    refine VO.mb ?_
    refine VO.nil ?_
    refine VC.region ?_
    refine VO.vv (OpV.add rfl rfl rfl (by unfold fits; omega)) ?_
    refine VO.mw ?_
    refine VO.nil ?_
    exact Exists.intro (⟨q + 1, by omega⟩) (And.intro (Le.mk hB [] ⟨(by dsimp only; first | (rw [vic_has h1]; rfl) | (rw [vic_new h1 (.inl (by assumption))]; rfl) | (rw [vic_new h1 (.inr ⟨by assumption, not_true_false h2b⟩)]; rfl) | (rw [vic_old (s := s) (parts := parts) (later := later) (q := q) h1 (by rintro (h8 | ⟨h8, h9⟩); exact absurd h8 (by omega); exact absurd (h9.symm.trans (not_false_true h2b)) Bool.false_ne_true)]; rfl) | (rw [vic_old (s := s) (parts := parts) (later := later) (q := q) h1 (by rintro (h8 | ⟨h8, h9⟩); omega; omega)]; rfl)), (by dsimp only; first | (rw [vic_has h1]; rfl) | (rw [vic_new h1 (.inl (by assumption))]; rfl) | (rw [vic_new h1 (.inr ⟨by assumption, not_true_false h2b⟩)]; rfl) | (rw [vic_old (s := s) (parts := parts) (later := later) (q := q) h1 (by rintro (h8 | ⟨h8, h9⟩); exact absurd h8 (by omega); exact absurd (h9.symm.trans (not_false_true h2b)) Bool.false_ne_true)]; rfl) | (rw [vic_old (s := s) (parts := parts) (later := later) (q := q) h1 (by rintro (h8 | ⟨h8, h9⟩); omega; omega)]; rfl)), rfl, rfl, rfl, rfl, rfl, rfl, trivial⟩ rfl rfl (Nat.le_refl _)) (by first | omega | (show _ < _; omega) | (simp only []; omega)))
 ·have aH1 := aH1b
  try simp only [qq] at aH1
  refine VC.exit ?_
  refine VC.sr ?_
  refine VO.mw ?_
  refine VO.mb ?_
  refine VO.nil ?_
  refine VC.ret ?_
  exact Exists.intro _ (And.intro (RetN.one Tryz.results314 (ResN.v rfl)) (by rw [show q = s.length by omega]))
end
section
theorem setup_next {s parts : List ByteArray} {later : List (List ByteArray)} {u : Value} (hg : Good' s) (hp : RightP s.length parts) (hl : SmSS later) :
  SpecH Tryz.prog 236 [.v u, avStrs parts, avM later] [.row u s.length 1 (strsL s) 9] (fun y hp' => y = avI (missF s parts).length ∧ hp' = [.row u s.length 1 (strsL (nextF s parts later)) 9]) := by
 have hls := hg.len
 have hlp := hp.len
 have hps := hp.sms (by omega)
 have hml := missF_len s parts
 have hf := hp.fits hg.once
 have hnd := missF_nodup (s := s) hf.pnd
 have hns : ∀ x ∈ missF s parts, x ∉ s := fun x hx => (missF_mem.1 hx).2
 refine SpecH.of_VC Tryz.func236 rfl Tryz.ntmps236 (Nle rfl) fun w A hB => ?_
 refine VC.sr ?_
 refine VO.mb ?_
 refine VO.nil ?_
 refine VC.sr ?_
 refine VO.mw ?_
 refine VO.mw ?_
 refine VO.op rfl (OpE.callL rfl hB rfl Tryz.call313 (setup_missing_N hg.sms hps) (ArgsP.cons (ArgP.rowS (i := 0) rfl rfl rfl) (ArgsP.cons (ArgP.ev rfl) (ArgsP.nil))) ?_)
 rintro _ rfl
 refine VO.mb ?_
 refine VO.nil ?_
 refine VC.seq ?_
 refine VC.sr ?_
 refine VO.mw ?_
 refine VO.vv (OpV.len_im rfl Tryz.underlying82 rfl) ?_
 refine VO.mw ?_
 refine VO.nil ?_
 refine VC.block ?_
 refine VC.loopK [(0, _), (1, _), (2, _), (7, _), (14, _), (15, _)] ⟨rfl, rfl, rfl, rfl, rfl, rfl, trivial⟩ ({q : Nat // q ≤ (missF s parts).length}) (fun (iZ : {q : Nat // q ≤ (missF s parts).length}) => match iZ with | ⟨q, hq⟩ => [(16, avI (q : Int))]) (fun (iZ : {q : Nat // q ≤ (missF s parts).length}) => match iZ with | ⟨q, hq⟩ => [.row u s.length 1 (strsL (nextL parts later s ((missF s parts).take q))) 9]) (fun (iZ : {q : Nat // q ≤ (missF s parts).length}) => match iZ with | ⟨q, hq⟩ => 0) (fun (iZ : {q : Nat // q ≤ (missF s parts).length}) => match iZ with | ⟨q, hq⟩ => (missF s parts).length - q) ⟨0, Nat.zero_le _⟩ (Le.mk hB [0] ⟨rfl, rfl, rfl, rfl, rfl, rfl, rfl, trivial⟩ rfl rfl (Nat.le_refl _)) ?_
 rintro ⟨q, hq⟩
 show VC _ _ _ _ ⟨[(16, avI (q : Int))] ++ [(0, _), (1, _), (2, _), (7, _), (14, _), (15, _)], [.row u s.length 1 (strsL (nextL parts later s ((missF s parts).take q))) 9], 0⟩
 refine VC.sr ?_
 refine VO.vv (OpV.lss rfl rfl rfl) ?_
 refine VO.nil ?_
 refine VC.seq ?_
 refine VC.cond rfl (fun aH1b => ?_) (fun aH1b => ?_)
 ·have aH1 := aH1b
  try simp only [qq] at aH1
  have hq' : q < (missF s parts).length := by omega
  have hcur := hg.next hp later q (by omega)
  have hcl : (nextL parts later s ((missF s parts).take q)).length = s.length := nextL_len _ _ _ _
  have hx := nextL_not (parts := parts) (later := later) hnd hns hq'
  have hxp : (missF s parts).getD q ByteArray.empty ∈ parts := (missF_mem.1 (by simp [hq'] : (missF s parts).getD q ByteArray.empty ∈ missF s parts)).1
  obtain ⟨k1, k2, k3⟩ := slotF_in (later := later) (nextL_fits (later := later) hf hnd hns q (by omega)) hxp hx
  rw [hcl] at k2
  refine VC.asBox (i := 0) rfl (by omega) (fun g cap hu hcap hmx => ?_)
  subst hu
  refine VC.skip ?_
  refine VC.seq ?_
  refine VC.block ?_
  refine VC.sr ?_
  refine VO.vv (OpV.indexAddr_1 rfl Tryz.underlying82 Tryz.sizeOf9 rfl rfl rfl (by omega)) ?_
  refine VO.vv (OpV.load_at rfl hB OutW.no Tryz.isAgg9 rfl rfl) ?_
  refine VO.mb ?_
  refine VO.nil ?_
  refine VC.sr ?_
  refine VO.mw ?_
  refine VO.op rfl (OpE.callL rfl hB rfl Tryz.call170 (slices_Index_str (by rw [hcl]; omega)) (ArgsP.cons (ArgP.boxS (i := 0) rfl rfl hcl.symm hcap hmx) (ArgsP.cons (ArgP.ev rfl) (ArgsP.nil))) ?_)
  rintro _ rfl
  refine VO.mb ?_
  refine VO.nil ?_
  refine VC.seq ?_
  refine VC.sr ?_
  refine VO.mw ?_
  refine VO.vv (OpV.lss rfl rfl rfl) ?_
  refine VO.nil ?_
  refine VC.cond rfl (fun h1b => ?_) (fun h1b => ?_)
  ·have h1 := h1b
   try simp only [qq] at h1
   have hsl := slotF_of_neg (parts := parts) (later := later) h1
   rw [hsl] at k1 k2 k3
   refine VC.region ?_
   refine VO.mw ?_
   refine VO.mw ?_
   refine VO.mw ?_
   refine VO.op rfl (OpE.callL rfl hB rfl Tryz.call314 (setup_victim (by rw [hcl]; omega) hps.1 hl) (ArgsP.cons (ArgP.boxS (i := 0) rfl rfl hcl.symm hcap hmx) (ArgsP.cons (ArgP.ev rfl) (ArgsP.cons (ArgP.ev rfl) (ArgsP.nil)))) ?_)
   rintro _ rfl
   refine VO.mb ?_
   refine VO.nil ?_
   refine VC.region ?_
   refine VO.mw ?_
   refine VO.mw ?_
   refine VO.mw ?_
   refine VO.vv (OpV.indexAddr_o rfl Tryz.underlying82 Tryz.sizeOf9 rfl rfl (Int.toNat_of_nonneg k1).symm (by omega)) ?_
   refine VO.op rfl (OpE.store1 (i := 0) rfl hB rfl Tryz.sizeOf9 rfl rfl rfl rfl rfl rfl (by rw [strsL_len]; omega) (strsL_set _ _ _) trivial ?_)
   refine VO.nil ?_
   refine VC.le _ (Le.boxRow (i := 0) (n := s.length) (sz := 1) (cap := cap) rfl (by rw [strsL_len, List.length_set]; omega) hcap hmx) ?_
   have e1 := nextL_take_succ (parts := parts) (later := later) (s := s) hq'
   rw [hsl] at e1
   refine VC.region ?_
   refine VO.vv (OpV.add rfl rfl rfl (by unfold fits; omega)) ?_
   refine VO.mw ?_
   refine VO.nil ?_
   exact Exists.intro (⟨q + 1, by omega⟩) (And.intro (Le.mk hB [0] ⟨rfl, rfl, rfl, rfl, rfl, rfl, rfl, trivial⟩ rfl (by dsimp only; rw [e1]; first | rfl | (rw [hcl]; rfl)) (Nat.le_refl _)) (by first | omega | (show _ < _; omega) | (simp only []; omega)))
  ·have h1 := h1b
   try simp only [qq] at h1
   have hsl := slotF_of_pos (parts := parts) (later := later) h1
   rw [hsl] at k1 k2 k3
   refine VC.skip ?_
   refine VC.region ?_
   refine VO.mw ?_
   refine VO.mw ?_
   refine VO.mw ?_
   refine VO.vv (OpV.indexAddr_o rfl Tryz.underlying82 Tryz.sizeOf9 rfl rfl (Int.toNat_of_nonneg k1).symm (by omega)) ?_
   refine VO.op rfl (OpE.store1 (i := 0) rfl hB rfl Tryz.sizeOf9 rfl rfl rfl rfl rfl rfl (by rw [strsL_len]; omega) (strsL_set _ _ _) trivial ?_)
   refine VO.nil ?_
   refine VC.le _ (Le.boxRow (i := 0) (n := s.length) (sz := 1) (cap := cap) rfl (by rw [strsL_len, List.length_set]; omega) hcap hmx) ?_
   have e1 := nextL_take_succ (parts := parts) (later := later) (s := s) hq'
   rw [hsl] at e1
   refine VC.region ?_
   refine VO.vv (OpV.add rfl rfl rfl (by unfold fits; omega)) ?_
   refine VO.mw ?_
   refine VO.nil ?_
   exact Exists.intro (⟨q + 1, by omega⟩) (And.intro (Le.mk hB [0] ⟨rfl, rfl, rfl, rfl, rfl, rfl, rfl, trivial⟩ rfl (by dsimp only; rw [e1]; first | rfl | (rw [hcl]; rfl)) (Nat.le_refl _)) (by first | omega | (show _ < _; omega) | (simp only []; omega)))
 ·have aH1 := aH1b
  try simp only [qq] at aH1
  obtain rfl : q = (missF s parts).length := by omega
  refine VC.exit ?_
  refine VC.sr ?_
  refine VO.mw ?_
  refine VO.vv (OpV.len_im rfl Tryz.underlying82 rfl) ?_
  refine VO.mb ?_
  refine VO.nil ?_
  refine VC.ret ?_
  exact Exists.intro _ (And.intro (RetV.one Tryz.results236 (ResV.tmp rfl)) (⟨rfl, by rw [nextF, List.take_length]; rfl⟩))
theorem SmSS.drop {p : List (List ByteArray)} (h : SmSS p) (k : Nat) : SmSS (p.drop k) := ⟨by have := h.1; simp; omega, fun i => by
 have : (p.drop k).getD i default = p.getD (k + i) default := by simp [List.getD_eq_getElem?_getD]
 rw [this]; exact h.2 _⟩
theorem SmSS.take {p : List (List ByteArray)} (h : SmSS p) (k : Nat) : SmSS (p.take k) := ⟨by have := h.1; simp; omega, fun i => by
 by_cases hi : i < k
 ·have : (p.take k).getD i default = p.getD i default := by simp [List.getD_eq_getElem?_getD, List.getElem?_take, hi]
  rw [this]; exact h.2 _
 ·have : (p.take k).getD i default = default := by simp [List.getD_eq_getElem?_getD, List.getElem?_take, hi]
  rw [this]; exact SmS.nil⟩
theorem setup_total {s : List ByteArray} {p : List (List ByteArray)} {most : Int} (hg : Good' s) (hp : ∀ q, q < p.length → RightP s.length (p.getD q default)) (hl : SmSS p) (hl2 : p.length ≤ 200) (hmost : -1000000 ≤ most ∧ most ≤ 1000000) :
  SpecN Tryz.prog 167 [avStrs s, avM p, avI most] (fun y => y = avI (totalF s p most)) := by
 have hls := hg.len
 refine SpecN.of_VCN Tryz.func167 rfl Tryz.ntmps167 (Nle rfl) fun w A hB => ?_
 refine VC.sr ?_
 refine VO.mb ?_
 refine VO.nil ?_
 refine VC.sr ?_
 refine VO.mw ?_
 refine VO.op rfl (OpE.callR rfl hB rfl Tryz.call235 (slices_CloneS_R (by omega)) (ArgsP.cons (ArgP.ev rfl) (ArgsP.nil)) ?_)
 intro u
 refine VO.mb ?_
 refine VO.nil ?_
 refine VC.sr ?_
 refine VO.mb ?_
 refine VO.nil ?_
 refine VC.seq ?_
 refine VC.sr ?_
 refine VO.mw ?_
 refine VO.vv (OpV.len_im rfl Tryz.underlying169 rfl) ?_
 refine VO.mw ?_
 refine VO.nil ?_
 refine VC.block ?_
 refine VC.loopK [(0, _), (1, _), (2, _), (12, _), (13, _)] ⟨rfl, rfl, rfl, rfl, rfl, trivial⟩ ({q : Nat // q ≤ p.length ∧ (q = 0 ∨ totF s p q < most)}) (fun (iZ : {q : Nat // q ≤ p.length ∧ (q = 0 ∨ totF s p q < most)}) => match iZ with | ⟨q, hq, hlt⟩ => [(7, avI (totF s p q)), (14, avI (q : Int))]) (fun (iZ : {q : Nat // q ≤ p.length ∧ (q = 0 ∨ totF s p q < most)}) => match iZ with | ⟨q, hq, hlt⟩ => [.row u (stF s p q).length 1 (strsL (stF s p q)) 9]) (fun (iZ : {q : Nat // q ≤ p.length ∧ (q = 0 ∨ totF s p q < most)}) => match iZ with | ⟨q, hq, hlt⟩ => 0) (fun (iZ : {q : Nat // q ≤ p.length ∧ (q = 0 ∨ totF s p q < most)}) => match iZ with | ⟨q, hq, hlt⟩ => p.length - q) ⟨0, Nat.zero_le _, .inl rfl⟩ (Le.mk hB [0] ⟨rfl, rfl, rfl, rfl, rfl, rfl, rfl, trivial⟩ rfl rfl (Nat.le_refl _)) ?_
 rintro ⟨q, hq, hlt⟩
 show VC _ _ _ _ ⟨[(7, avI (totF s p q)), (14, avI (q : Int))] ++ [(0, _), (1, _), (2, _), (12, _), (13, _)], [.row u (stF s p q).length 1 (strsL (stF s p q)) 9], 0⟩
 refine VC.sr ?_
 refine VO.vv (OpV.lss rfl rfl rfl) ?_
 refine VO.nil ?_
 refine VC.seq ?_
 refine VC.cond rfl (fun aH1b => ?_) (fun aH1b => ?_)
 ·have aH1 := aH1b
  try simp only [qq] at aH1
  have hst := stF_good hg hp q (by omega)
  have hsl := stF_len s p q
  have hti := totF_in hls hp q (by omega)
  have hms := missF_len (stF s p q) (p.getD q default)
  have hpl := (hp q (by omega)).len
  refine VC.skip ?_
  refine VC.seq ?_
  refine VC.block ?_
  refine VC.sr ?_
  refine VO.mw ?_
  refine VO.vv (OpV.indexAddr_1 rfl Tryz.underlying169 Tryz.sizeOf82 rfl rfl rfl (by omega)) ?_
  refine VO.vv (OpV.load_at rfl hB OutW.no Tryz.isAgg82 rfl rfl) ?_
  refine VO.mb ?_
  refine VO.mb ?_
  refine VO.nil ?_
  refine VC.sr ?_
  refine VO.mw ?_
  refine VO.mw ?_
  refine VO.mw ?_
  refine VO.mw ?_
  refine VO.mw ?_
  refine VO.vv (OpV.add rfl rfl rfl (by unfold fits; omega)) ?_
  refine VO.vv (OpV.slice_M (l := q + 1) rfl Tryz.underlying169 Tryz.sizeOf82 rfl ⟨_, _, rfl, (by omega)⟩ rfl (by omega) (by omega)) ?_
  refine VO.op rfl (OpE.callH0 rfl hB rfl Tryz.call236 rfl rfl (setup_next hst (by rw [hsl]; exact hp q (by omega)) ((hl.take _).drop _)) (List.Perm.refl _) (fun _ _ => trivial) ?_)
  rintro _ _ ⟨rfl, rfl⟩
  refine VO.vv (OpV.add rfl rfl rfl (by unfold fits; omega)) ?_
  refine VO.mb ?_
  refine VO.nil ?_
  refine VC.sr ?_
  refine VO.mw ?_
  refine VO.mw ?_
  refine VO.vv (OpV.geq rfl rfl rfl) ?_
  refine VO.nil ?_
  refine VC.cond rfl (fun h1b => ?_) (fun h1b => ?_)
  ·have h1 := h1b
   try simp only [qq] at h1
   have hmono := totF_mono (s := s) (p := p) (a := q + 1) (b := p.length) (by omega)
   have h1' : most ≤ totF s p (q + 1) := h1
   refine VC.sr ?_
   refine VO.mw ?_
   refine VO.mb ?_
   refine VO.nil ?_
   refine VC.ret ?_
   exact Exists.intro _ (And.intro (RetN.one Tryz.results167 (ResN.v rfl)) (by rw [totalF, if_neg (by omega), if_pos (by omega)]))
  ·have h1 := h1b
   try simp only [qq] at h1
   refine VC.skip ?_
   refine VC.region ?_
   refine VO.vv (OpV.add rfl rfl rfl (by unfold fits; omega)) ?_
   refine VO.mw ?_
   refine VO.nil ?_
   exact Exists.intro (⟨q + 1, by omega, .inr h1⟩) (And.intro (Le.mk hB [0] ⟨rfl, rfl, rfl, rfl, rfl, rfl, rfl, trivial⟩ rfl (by dsimp only; rw [List.take_length, show (stF s p (q + 1)).length = (stF s p q).length by rw [stF_len, stF_len]]; rfl) (Nat.le_refl _)) (by first | omega | (show _ < _; omega) | (simp only []; omega)))
 ·have aH1 := aH1b
  try simp only [qq] at aH1
  obtain rfl : q = p.length := by omega
  refine VC.exit ?_
  refine VC.sr ?_
  refine VO.mw ?_
  refine VO.mb ?_
  refine VO.nil ?_
  refine VC.ret ?_
  exact Exists.intro _ (And.intro (RetN.one Tryz.results167 (ResN.v rfl)) (by rw [totalF]; split; (rw [show p.length = 0 by assumption]; rfl); rw [if_neg (by omega)]))
def totE (s : List ByteArray) (p : List (List ByteArray)) : Int := if setsF s p = 0 then totF s p p.length else 0
theorem setsF_zero {s : List ByteArray} {p : List (List ByteArray)} (h : setsF s p = 0) : setupF s = 0 ∧ Good' s ∧ p.length ≤ 200 ∧ (∀ q, q < p.length → RightP s.length (p.getD q default)) ∧ partsF s.length p = 0 := by
 rw [setsF] at h
 split at h
 ·rename_i h1; exact absurd h h1
 ·rename_i h1
  have h0 : setupF s = 0 := by omega
  exact ⟨h0, Good'.of h0, (partsF_zero h).2.1, fun q hq => RightP.of rfl h hq, h⟩
theorem totalF_big {s : List ByteArray} {p : List (List ByteArray)} (hs : s.length ≤ 100) (hl : p.length ≤ 200) (hp : ∀ q, q < p.length → RightP s.length (p.getD q default)) : totalF s p 20001 = totF s p p.length := by
 have := totF_in hs hp p.length (Nat.le_refl _)
 rw [totalF]
 split
 ·rename_i h; rw [h]; rfl
 ·rw [if_neg (by omega)]
theorem setup_Total {s : List ByteArray} {p : List (List ByteArray)} (hs : SmS s) (hl : SmSS p) :
  SpecN Tryz.prog 84 [avStrs s, avM p] (fun y => y = .tup [avI (totE s p), avI (setsF s p)]) := by
 refine SpecN.of_VCN Tryz.func84 rfl Tryz.ntmps84 (Nle rfl) fun w A hB => ?_
 refine VC.sr ?_
 refine VO.mb ?_
 refine VO.mb ?_
 refine VO.nil ?_
 refine VC.seq ?_
 refine VC.sr ?_
 refine VO.mw ?_
 refine VO.mw ?_
 refine VO.op rfl (OpE.call rfl hB rfl Tryz.call166 rfl (SpecN.spec (setup_fault hs hl)) ?_)
 rintro _ rfl
 refine VO.mb ?_
 refine VO.nil ?_
 refine VC.sr ?_
 refine VO.mw ?_
 refine VO.vv (OpV.neq rfl rfl rfl) ?_
 refine VO.nil ?_
 refine VC.cond rfl (fun h0b => ?_) (fun h0b => ?_)
 ·have h0 := h0b
  try simp only [qq] at h0
  refine VC.sr ?_
  refine VO.mw ?_
  refine VO.mb ?_
  refine VO.mb ?_
  refine VO.nil ?_
  refine VC.ret ?_
  exact Exists.intro _ (And.intro (RetN.two Tryz.results84 (ResN.v rfl) (ResN.v rfl)) (by rw [totE, if_neg h0]))
 ·have h0 := h0b
  try simp only [qq] at h0
  obtain ⟨z1, z2, z3, z4, z5⟩ := setsF_zero (s := s) (p := p) (by omega)
  refine VC.skip ?_
  refine VC.sr ?_
  refine VO.mw ?_
  refine VO.mw ?_
  refine VO.op rfl (OpE.call rfl hB rfl Tryz.call167 rfl (SpecN.spec (setup_total z2 z4 hl z3 (by decide))) ?_)
  rintro _ rfl
  refine VO.mb ?_
  refine VO.mb ?_
  refine VO.nil ?_
  refine VC.ret ?_
  exact Exists.intro _ (And.intro (RetN.two Tryz.results84 (ResN.v rfl) (ResN.v rfl)) (by rw [totE, if_pos (by omega), totalF_big z2.len z3 z4, show setsF s p = 0 by omega]))
end
section
def loadS : List ByteArray := [ε]
def loadP : List (List ByteArray) := [[⟨#[97]⟩], [⟨#[98]⟩]]
theorem load_sms : SmS loadS := ⟨by decide, fun i => by cases i with | zero => decide | succ i => simp [loadS]⟩
theorem load_smss : SmSS loadP := ⟨by decide, fun i => by
 match i with
 | 0 => exact ⟨by decide, fun i => by cases i with | zero => decide | succ i => simp [loadP]⟩
 | 1 => exact ⟨by decide, fun i => by cases i with | zero => decide | succ i => simp [loadP]⟩
 | i + 2 => exact SmS.nil⟩
theorem load_ok : setsF loadS loadP = 0 := by decide +kernel
theorem load_two : totE loadS loadP = 2 := by decide +kernel
end
section
theorem lined_flow : flowF [10, 30] [0] 2 = 0 := by decide +kernel
theorem lined_leaves : leavesF [10, 30] [0] 2 = [40, 70] := by
 rw [leavesF, if_pos lined_flow]
 have a00 : (pas [10, 30] [0] 0 0).taken = 0 := by rw [pas_taken]; simp [here]
 have b00 : (pas [10, 30] [0] 0 0).left = 10 := by rw [pas_left, a00]; simp [at']
 have a01 : (pas [10, 30] [0] 0 1).taken = 10 := by rw [pas_taken]; simp [here, b00]
 have b01 : (pas [10, 30] [0] 0 1).left = 40 := by rw [pas_left, a01]; simp [at']
 have a10 : (pas [10, 30] [0] 1 0).taken = 10 := by rw [pas_taken]; simp [here, b00]; decide
 have b10 : (pas [10, 30] [0] 1 0).left = 40 := by rw [pas_left, a10]; simp [at', b01]; decide
 have a11 : (pas [10, 30] [0] 1 1).taken = 40 := by rw [pas_taken]; simp [here, b10, b01]
 have b11 : (pas [10, 30] [0] 1 1).left = 70 := by rw [pas_left, a11]; simp [at']
 simp [leaves, List.range_succ, b01, b11]
end
section
theorem rk_errs {xs : List Int} (hl : xs.length ≤ 1000000000) :
  SpecN Tryz.prog 65 [avInts xs] (fun y => y = avI (errsF xs)) := by
 refine SpecN.of_VCN Tryz.func65 rfl Tryz.ntmps65 (Nle rfl) fun w A hB => ?_
 refine VC.sr ?_
 refine VO.mb ?_
 refine VO.nil ?_
 refine VC.seq ?_
 refine VC.sr ?_
 refine VO.mw ?_
 refine VO.vv (OpV.len_im rfl Tryz.underlying262 rfl) ?_
 refine VO.mw ?_
 refine VO.nil ?_
 refine VC.block ?_
 refine VC.loopK [(5, _), (6, _)] ⟨rfl, rfl, trivial⟩ ({q : Nat // q ≤ xs.length ∧ ∀ j, j < q → xs.getD j 0 = 0}) (fun (iZ : {q : Nat // q ≤ xs.length ∧ ∀ j, j < q → xs.getD j 0 = 0}) => match iZ with | ⟨q, hq, hn⟩ => [(7, avI (q : Int))]) (fun (iZ : {q : Nat // q ≤ xs.length ∧ ∀ j, j < q → xs.getD j 0 = 0}) => match iZ with | ⟨q, hq, hn⟩ => []) (fun (iZ : {q : Nat // q ≤ xs.length ∧ ∀ j, j < q → xs.getD j 0 = 0}) => match iZ with | ⟨q, hq, hn⟩ => 0) (fun (iZ : {q : Nat // q ≤ xs.length ∧ ∀ j, j < q → xs.getD j 0 = 0}) => match iZ with | ⟨q, hq, hn⟩ => xs.length - q) ⟨0, Nat.zero_le _, fun j hj => absurd hj (Nat.not_lt_zero j)⟩ (Le.mk hB [] ⟨rfl, rfl, rfl, trivial⟩ rfl rfl (Nat.le_refl _)) ?_
 rintro ⟨q, hq, hn⟩
 show VC _ _ _ _ ⟨[(7, avI (q : Int))] ++ [(5, _), (6, _)], [], 0⟩
 refine VC.sr ?_
 refine VO.vv (OpV.lss rfl rfl rfl) ?_
 refine VO.nil ?_
 refine VC.seq ?_
 refine VC.cond rfl (fun aH1b => ?_) (fun aH1b => ?_)
 ·have aH1 := aH1b
  try simp only [qq] at aH1
  refine VC.skip ?_
  refine VC.seq ?_
  refine VC.block ?_
  refine VC.sr ?_
  refine VO.vv (OpV.indexAddr_1 rfl Tryz.underlying262 Tryz.sizeOf34 rfl rfl rfl (by omega)) ?_
  refine VO.vv (OpV.load_at rfl hB OutW.no Tryz.isAgg34 rfl rfl) ?_
  refine VO.mb ?_
  refine VO.nil ?_
  refine VC.sr ?_
  refine VO.mw ?_
  refine VO.vv (OpV.neq rfl rfl rfl) ?_
  refine VO.nil ?_
  refine VC.cond rfl (fun h1b => ?_) (fun h1b => ?_)
  ·have h1 := h1b
   try simp only [qq] at h1
   refine VC.sr ?_
   refine VO.mw ?_
   refine VO.mb ?_
   refine VO.nil ?_
   refine VC.ret ?_
   exact Exists.intro _ (And.intro (RetN.one Tryz.results65 (ResN.v rfl)) (by rw [errsF_at (q := q) (by omega) hn h1]))
  ·have h1 := h1b
   try simp only [qq] at h1
   refine VC.skip ?_
   refine VC.region ?_
   refine VO.vv (OpV.add rfl rfl rfl (by unfold fits; omega)) ?_
   refine VO.mw ?_
   refine VO.nil ?_
   exact Exists.intro (⟨q + 1, by omega, lt_succ_cases hn ((by omega))⟩) (And.intro (Le.mk hB [] ⟨rfl, rfl, rfl, trivial⟩ rfl rfl (Nat.le_refl _)) (by first | omega | (show _ < _; omega) | (simp only []; omega)))
 ·have aH1 := aH1b
  try simp only [qq] at aH1
  refine VC.exit ?_
  refine VC.sr ?_
  refine VO.mb ?_
  refine VO.nil ?_
  refine VC.ret ?_
  exact Exists.intro _ (And.intro (RetN.one Tryz.results65 (ResN.v rfl)) (by rw [errsF_none (fun j hj => hn j (by omega))]))
def rdL : List LookS := [⟨⟨#[98]⟩, ⟨#[99]⟩, 0, 1, true, ⟨#[109]⟩, ⟨#[110]⟩, ⟨#[114]⟩⟩]
theorem one_sz {α : Type} [Inhabited α] {f : α → ByteArray} {x : α} (h : (f x).size ≤ 1000000) (h0 : (f default).size ≤ 1000000) (i : Nat) : (f ([x].getD i default)).size ≤ 1000000 := by
 match i with
 | 0 => exact h
 | i + 1 => exact h0
theorem rdL_sm : SmLk rdL := ⟨by decide, one_sz (f := LookS.board) (by decide) (by decide), one_sz (f := LookS.name) (by decide) (by decide), one_sz (f := LookS.machine) (by decide) (by decide), one_sz (f := LookS.nozzle) (by decide) (by decide), one_sz (f := LookS.reel) (by decide) (by decide)⟩
theorem rdL_ok : millE rdL = 0 := by decide +kernel
theorem rdL_n : (millN rdL).1 = 1000000 := by decide +kernel
def rdP : List PaceS := [⟨⟨#[112]⟩, 10, []⟩]
def rdO : List OrdrS := [⟨⟨#[111]⟩, ⟨#[112]⟩, 3, 0, 5⟩]
theorem rdP_sm : SmPc rdP := ⟨by decide, one_sz (f := PaceS.product) (by decide) (by decide), fun i => by
 match i with
 | 0 => decide
 | i + 1 => show ([] : List NeedS).length ≤ _; decide, fun i j => by
 match i with
 | 0 => show (([] : List NeedS).getD j default).key.size ≤ _; simp; decide
 | i + 1 => show (([] : List NeedS).getD j default).key.size ≤ _; simp; decide⟩
theorem rdO_sm : SmOr rdO := ⟨by decide, one_sz (f := OrdrS.key) (by decide) (by decide), one_sz (f := OrdrS.product) (by decide) (by decide)⟩
theorem rd_sch : scheF rdP rdO [0] 1 0 = 0 := by decide +kernel
theorem rd_from : fromP rdP rdO [0] 1 0 0 = 1 := by decide +kernel
theorem rd_end : endP rdP rdO [0] 1 0 0 = 31 := by decide +kernel
theorem rd_times : timesR rdP rdO [0] 1 0 = [⟨1, 31⟩] := by
 rw [timesR, if_pos rd_sch]
 show [winP rdP rdO [0] 1 0 0] = _
 rw [winP, rd_from, rd_end]
theorem pace_nil {w : World} {Z : Nat → Prop} {u : Value} {a : ByteArray} {b : Int} (h : Rep w Z (.agg [avS a, avI b, .v (.slice none 0 0)]) u) : Rep w Z (avPc ⟨a, b, []⟩) u := by
 cases h with
 | agg cs us hl hr =>
  refine .agg _ us hl fun j hj => ?_
  match j, hj with
  | 0, _ => exact hr 0 (by simp)
  | 1, _ => exact hr 1 (by simp)
  | 2, _ =>
   have := hr 2 (by simp)
   show Rep w Z (.im 0 2 _) _
   rw [this.eq_v]; exact .nil _ _
set_option maxHeartbeats 4000000 in
theorem rk_ready   :
  SpecN Tryz.prog 22 [] (fun y => y = avB true) := by
 refine SpecN.of_VCN Tryz.func22 rfl Tryz.ntmps22 (Nle rfl) fun w A hB => ?_
 refine VC.sr ?_
 refine VO.mb ?_
 refine VO.nil ?_
 refine VC.sr ?_
 refine VO.vv (OpV.build (pls := #[(0, 1), (1, 1), (2, 1), (3, 1), (4, 1)]) rfl Tryz.zeroValue152 Tryz.underlying152 (fun w => by kernel_rfl) rfl rfl) ?_
 refine VO.op rfl (OpE.buildSlice (zc := #[.string ⟨#[]⟩, .string ⟨#[]⟩, .int .i64 0, .int .i64 0, .int .i64 0]) rfl hB rfl Tryz.underlying26 Tryz.sizeOf152 Tryz.zeroValue152 (by decide) (by decide) (by kernel_rfl) rfl rfl ?_)
 refine VO.le _ (Le.recast (t := 13) (y := avL panL) rfl (fun w Z u h => Rep.rowL (xs := panL) rfl h)) ?_
 refine VO.vv (OpV.build (pls := #[(0, 1), (1, 1), (2, 1), (3, 1)]) rfl Tryz.zeroValue28 Tryz.underlying28 (fun w => by kernel_rfl) rfl rfl) ?_
 refine VO.op rfl (OpE.call rfl hB rfl Tryz.call83 rfl (SpecN.spec (panel_Needs (p := panP) panP_sm)) ?_)
 rintro _ rfl
 refine VO.le _ (Le.recast (t := 15) (y := .tup [avL ([⟨⟨#[99, 97, 112]⟩, 1⟩] : List NeedS), avI 0]) rfl (fun w Z u h => by rw [← panP_needs, ← panP_ok]; exact h)) ?_
 refine VO.mw ?_
 refine VO.vv (OpV.extract rfl rfl rfl) ?_
 refine VO.vv (OpV.extract rfl rfl rfl) ?_
 refine VO.mb ?_
 refine VO.mb ?_
 refine VO.nil ?_
 refine VC.sr ?_
 refine VO.op rfl (bS rfl hB rfl (by decide) rfl rfl ?_)
 refine VO.le _ (Le.lS (t := 19) (xs := loadS) rfl rfl) ?_
 refine VO.op rfl (bS rfl hB rfl (by decide) rfl rfl ?_)
 refine VO.le _ (Le.lS (t := 20) (xs := [⟨#[97]⟩]) rfl rfl) ?_
 refine VO.op rfl (bS rfl hB rfl (by decide) rfl rfl ?_)
 refine VO.le _ (Le.lS (t := 21) (xs := [⟨#[98]⟩]) rfl rfl) ?_
 refine VO.op rfl (OpE.buildSlice (zc := #[.slice none 0 0, .slice none 0 0]) rfl hB rfl Tryz.underlying169 Tryz.sizeOf82 Tryz.zeroValue82 (by decide) (by decide) (by kernel_rfl) rfl rfl ?_)
 refine VO.le _ (Le.recast (t := 22) (y := avM loadP) rfl (fun w Z u h => Rep.listM (xs := loadP) rfl h)) ?_
 refine VO.op rfl (OpE.call rfl hB rfl Tryz.call84 rfl (SpecN.spec (setup_Total load_sms load_smss)) ?_)
 rintro _ rfl
 refine VO.le _ (Le.recast (t := 23) (y := .tup [avI 2, avI 0]) rfl (fun w Z u h => by rw [load_two, load_ok] at h; exact h)) ?_
 refine VO.mw ?_
 refine VO.vv (OpV.extract rfl rfl rfl) ?_
 refine VO.vv (OpV.extract rfl rfl rfl) ?_
 refine VO.mb ?_
 refine VO.mb ?_
 refine VO.nil ?_
 refine VC.sr ?_
 refine VO.op rfl (bI rfl hB rfl (by decide) rfl rfl ?_)
 refine VO.le _ (Le.lits (t := 27) (xs := [10, 30]) rfl rfl) ?_
 refine VO.op rfl (bI rfl hB rfl (by decide) rfl rfl ?_)
 refine VO.le _ (Le.lits (t := 28) (xs := [0]) rfl rfl) ?_
 refine VO.op rfl (OpE.call rfl hB rfl Tryz.call32 rfl (SpecN.spec (line_Leave_S)) ?_)
 rintro _ rfl
 refine VO.le _ (Le.recast (t := 29) (y := .tup [avInts [40, 70], avI 0]) rfl (fun w Z u h => by rw [lined_leaves, lined_flow] at h; exact h)) ?_
 refine VO.mw ?_
 refine VO.vv (OpV.extract rfl rfl rfl) ?_
 refine VO.vv (OpV.extract rfl rfl rfl) ?_
 refine VO.mb ?_
 refine VO.mb ?_
 refine VO.nil ?_
 refine VC.sr ?_
 refine VO.vv (OpV.build (pls := #[(0, 1), (1, 1), (2, 1), (3, 1), (4, 1), (5, 1), (6, 1), (7, 1)]) rfl Tryz.zeroValue124 Tryz.underlying124 (fun w => by kernel_rfl) rfl rfl) ?_
 refine VO.op rfl (OpE.buildSlice (zc := #[.string ⟨#[]⟩, .string ⟨#[]⟩, .int .i64 0, .int .i64 0, .bool false, .string ⟨#[]⟩, .string ⟨#[]⟩, .string ⟨#[]⟩]) rfl hB rfl Tryz.underlying118 Tryz.sizeOf124 Tryz.zeroValue124 (by decide) (by decide) (by kernel_rfl) rfl rfl ?_)
 refine VO.le _ (Le.recast (t := 34) (y := avL rdL) rfl (fun w Z u h => Rep.rowL (xs := rdL) rfl h)) ?_
 refine VO.op rfl (OpE.call rfl hB rfl Tryz.call85 rfl (SpecN.spec (inspect_Million rdL_sm)) ?_)
 rintro _ rfl
 refine VO.le _ (Le.recast (t := 35) (y := .tup [.agg [avI 1000000, avI ((millN rdL).2 : Int)], avI 0]) rfl (fun w Z u h => by rw [rdL_n, rdL_ok] at h; exact h)) ?_
 refine VO.mw ?_
 refine VO.vv (OpV.extract rfl rfl rfl) ?_
 refine VO.vv (OpV.extract rfl rfl rfl) ?_
 refine VO.op rfl (OpE.alloc rfl hB rfl Tryz.zeroValue171 rfl ?_)
 intro g7
 refine VO.op rfl (OpE.store (i := 0) rfl hB rfl Tryz.sizeOf171 rfl rfl rfl rfl rfl rfl (Nle rfl) trivial ?_)
 refine VO.mb ?_
 refine VO.nil ?_
 refine VC.sr ?_
 refine VO.vv (OpV.build (pls := #[(0, 1), (1, 1), (2, 1)]) rfl Tryz.zeroValue115 Tryz.underlying115 (fun w => by kernel_rfl) rfl rfl) ?_
 refine VO.le _ (Le.recast (t := 39) (y := avPc ⟨⟨#[112]⟩, 10, []⟩) rfl (fun w Z u h => pace_nil h)) ?_
 refine VO.op rfl (OpE.buildSlice (zc := #[.string ⟨#[]⟩, .int .i64 0, .slice none 0 0]) rfl hB rfl Tryz.underlying92 Tryz.sizeOf115 Tryz.zeroValue115 (by decide) (by decide) (by kernel_rfl) rfl rfl ?_)
 refine VO.le _ (Le.recast (t := 40) (y := avL rdP) rfl (fun w Z u h => Rep.rowL (xs := rdP) rfl h)) ?_
 refine VO.vv (OpV.build (pls := #[(0, 1), (1, 1), (2, 1), (3, 1), (4, 1)]) rfl Tryz.zeroValue110 Tryz.underlying110 (fun w => by kernel_rfl) rfl rfl) ?_
 refine VO.op rfl (OpE.buildSlice (zc := #[.string ⟨#[]⟩, .string ⟨#[]⟩, .int .i64 0, .int .i64 0, .int .i64 0]) rfl hB rfl Tryz.underlying93 Tryz.sizeOf110 Tryz.zeroValue110 (by decide) (by decide) (by kernel_rfl) rfl rfl ?_)
 refine VO.le _ (Le.recast (t := 42) (y := avL rdO) rfl (fun w Z u h => Rep.rowL (xs := rdO) rfl h)) ?_
 refine VO.op rfl (bI rfl hB rfl (by decide) rfl rfl ?_)
 refine VO.le _ (Le.lits (t := 43) (xs := [0]) rfl rfl) ?_
 refine VO.op rfl (OpE.call rfl hB rfl Tryz.call42 rfl (SpecN.spec (plan_Times rdP_sm rdO_sm (by decide))) ?_)
 rintro _ rfl
 refine VO.le _ (Le.recast (t := 44) (y := .tup [avL ([⟨1, 31⟩] : List WinS), avI 0]) rfl (fun w Z u h => by rw [rd_times, rd_sch] at h; exact h)) ?_
 refine VO.mw ?_
 refine VO.vv (OpV.extract rfl rfl rfl) ?_
 refine VO.vv (OpV.extract rfl rfl rfl) ?_
 refine VO.mb ?_
 refine VO.mb ?_
 refine VO.nil ?_
 refine VC.sr ?_
 refine VO.mw ?_
 refine VO.mw ?_
 refine VO.mw ?_
 refine VO.mw ?_
 refine VO.mw ?_
 refine VO.op rfl (OpE.buildSlice (zc := #[.int .i64 0, .int .i64 0, .int .i64 0, .int .i64 0, .int .i64 0]) rfl hB rfl Tryz.underlying262 Tryz.sizeOf34 Tryz.zeroValue34 (by decide) (by decide) (by kernel_rfl) rfl rfl ?_)
 refine VO.le _ (Le.lits (t := 52) (xs := [0, 0, 0, 0, 0]) rfl rfl) ?_
 refine VO.op rfl (OpE.call rfl hB rfl Tryz.call65 rfl (SpecN.spec (rk_errs (by decide))) ?_)
 rintro _ rfl
 refine VO.vv (OpV.eql rfl rfl rfl) ?_
 refine VO.le _ (Le.boolT (t := 54) rfl (decide_eq_true rfl)) ?_
 refine VO.mw ?_
 refine VO.opY rfl rfl rfl rfl rfl ?_
 refine OpE.val (W := NoB) (OpV.move (.inl rfl) rfl) rfl ?_
 refine VO.opY rfl rfl rfl rfl rfl ?_
 refine OpE.val (W := NoB) (OpV.len_im rfl Tryz.underlying68 rfl) rfl ?_
 refine VO.opY rfl rfl rfl rfl rfl ?_
 refine OpE.val (W := NoB) (OpV.eql rfl rfl rfl) rfl ?_
 refine VO.le _ (Le.boolT (t := 58) rfl (decide_eq_true rfl)) ?_
 refine VO.vv (OpV.pickT rfl rfl rfl rfl rfl) ?_
 refine VO.mw ?_
 refine VO.opY rfl rfl rfl rfl rfl ?_
 refine OpE.val (W := NoB) (OpV.move (.inl rfl) rfl) rfl ?_
 refine VO.opY rfl rfl rfl rfl rfl ?_
 refine OpE.val (W := NoB) (OpV.eql rfl rfl rfl) rfl ?_
 refine VO.le _ (Le.boolT (t := 62) rfl (decide_eq_true rfl)) ?_
 refine VO.vv (OpV.pickT rfl rfl rfl rfl rfl) ?_
 refine VO.mw ?_
 refine VO.opY rfl rfl rfl rfl rfl ?_
 refine OpE.val (W := NoB) (OpV.move (.inl rfl) rfl) rfl ?_
 refine VO.opY rfl rfl rfl rfl rfl ?_
 refine OpE.val (W := NoB) (OpV.len_im rfl Tryz.underlying22 rfl) rfl ?_
 refine VO.opY rfl rfl rfl rfl rfl ?_
 refine OpE.val (W := NoB) (OpV.eql rfl rfl rfl) rfl ?_
 refine VO.le _ (Le.boolT (t := 67) rfl (decide_eq_true rfl)) ?_
 refine VO.vv (OpV.pickT rfl rfl rfl rfl rfl) ?_
 refine VO.mw ?_
 refine VO.opY rfl rfl rfl rfl rfl ?_
 refine OpE.val (W := NoB) (OpV.fieldAddrO 0 rfl Tryz.underlying171 rfl rfl Tryz.sizeOf3 rfl) rfl ?_
 refine VO.opY rfl rfl rfl rfl rfl ?_
 refine OpE.val (W := NoB) (OpV.load_own (i := 0) rfl hB Tryz.isAgg3 rfl rfl rfl (fun h => h)) rfl ?_
 refine VO.opY rfl rfl rfl rfl rfl ?_
 refine OpE.val (W := NoB) (OpV.eql rfl rfl rfl) rfl ?_
 refine VO.le _ (Le.boolT (t := 72) rfl (decide_eq_true rfl)) ?_
 refine VO.vv (OpV.pickT rfl rfl rfl rfl rfl) ?_
 refine VO.mw ?_
 refine VO.opY rfl rfl rfl rfl rfl ?_
 refine OpE.val (W := NoB) (OpV.move (.inl rfl) rfl) rfl ?_
 refine VO.opY rfl rfl rfl rfl rfl ?_
 refine OpE.val (W := NoB) (OpV.len_im rfl Tryz.underlying99 rfl) rfl ?_
 refine VO.opY rfl rfl rfl rfl rfl ?_
 refine OpE.val (W := NoB) (OpV.eql rfl rfl rfl) rfl ?_
 refine VO.le _ (Le.boolT (t := 77) rfl (decide_eq_true rfl)) ?_
 refine VO.vv (OpV.pickT rfl rfl rfl rfl rfl) ?_
 refine VO.mw ?_
 refine VO.opY rfl rfl rfl rfl rfl ?_
 refine OpE.val (W := NoB) (OpV.move (.inl rfl) rfl) rfl ?_
 refine VO.opY rfl rfl rfl rfl rfl ?_
 refine OpE.val (W := NoB) (OpV.indexAddr_E rfl Tryz.underlying99 Tryz.sizeOf104 rfl rfl rfl (by show 0 < 1; decide)) rfl ?_
 refine VO.opY rfl rfl rfl rfl rfl ?_
 refine OpE.val (W := NoB) (OpV.fieldAddr_atO 1 rfl Tryz.underlying104 rfl rfl Tryz.sizeOf3 rfl rfl) rfl ?_
 refine VO.opY rfl rfl rfl rfl rfl ?_
 refine OpE.val (W := NoB) (OpV.load_at rfl hB OutW.no Tryz.isAgg3 rfl rfl) rfl ?_
 refine VO.opY rfl rfl rfl rfl rfl ?_
 refine OpE.val (W := NoB) (OpV.eql rfl rfl rfl) rfl ?_
 refine VO.le _ (Le.boolT (t := 84) rfl (decide_eq_true rfl)) ?_
 refine VO.vv (OpV.pickT rfl rfl rfl rfl rfl) ?_
 refine VO.mb ?_
 refine VO.nil ?_
 refine VC.ret ?_
 exact Exists.intro _ (And.intro (RetN.one Tryz.results22 (ResN.v rfl)) (rfl))
end
section
theorem VC.newB {P : Program} {w : World} {A : Nat → Prop} {nt i g : Nat} {c : Code} {Q : Exit → St' → Prop} {s : St'} {e : Ent} (hi : s.hp[i]? = some e) (hg : e.blk = some g) (h : w.heap.size ≤ g → VC P (B0 w A nt) c Q s) : VC P (B0 w A nt) c Q s := fun a w1 hr =>
 h (Nat.not_lt.1 (hr.isNew (fun b h => h) (List.mem_of_getElem? hi) hg)) a w1 hr
end
section
def sameM (a b : Mach) : Bool := sEq a.key b.key && (decide (a.each = b.each) && (decide (a.fixed = b.fixed) && (decide (a.feeders = b.feeders) && eqLs sEq a.can b.can)))
theorem sameM_self (a : Mach) : sameM a a = true := by simp [sameM, sEq_refl, eqLs_self sEq_refl]
theorem spoil_I2 {u : Value} {n : Nat} {xs : List Int} (h : n = xs.length) : SpecH Tryz.prog 28 [.v u] [.row u n 1 (intsL xs) 3] (fun y hp' => ∃ xs' : List Int, hp' = [.row u n 1 (intsL xs') 3]) := by subst h; exact spoil_I
theorem linesStay1 {a b : Mach} (hl : a.can.length ≤ 1000000000) (hl' : b.can.length ≤ 1000000000) :
  SpecN Tryz.prog 33 [avT a, avT b] (fun y => y = avB (sameM a b)) := by
 refine SpecN.of_VCN Tryz.func33 rfl Tryz.ntmps33 (Nle rfl) fun w A hB => ?_
 refine VC.sr ?_
 refine VO.op rfl (OpE.box rfl hB rfl rfl rfl ?_)
 intro g2
 refine VO.op rfl (OpE.box rfl hB rfl rfl rfl ?_)
 intro g3
 refine VO.mb ?_
 refine VO.nil ?_
 refine VC.sr ?_
 refine VO.vv (OpV.fieldAddrO 0 rfl Tryz.underlying84 rfl rfl Tryz.sizeOf9 rfl) ?_
 refine VO.vv (OpV.load_own (i := 0) rfl hB Tryz.isAgg9 rfl rfl rfl (fun h => h)) ?_
 refine VO.vv (OpV.fieldAddrO 0 rfl Tryz.underlying84 rfl rfl Tryz.sizeOf9 rfl) ?_
 refine VO.vv (OpV.load_own (i := 1) rfl hB Tryz.isAgg9 rfl rfl rfl (fun h => h)) ?_
 refine VO.vv (OpV.seql rfl rfl rfl) ?_
 refine VO.mw ?_
 refine VO.opG rfl rfl rfl rfl (fun aK1b => ?_) (fun aK1b => ?_)
 ·replace aK1b : _ = true := aK1b
  have aK1 := aK1b
  try simp only [qq] at aK1
  refine OpE.val (W := NoB) (OpV.fieldAddrO 1 rfl Tryz.underlying84 rfl rfl Tryz.sizeOf3 rfl) rfl ?_
  refine VO.opY rfl rfl rfl rfl aK1b ?_
  refine OpE.val (W := NoB) (OpV.load_own (i := 0) rfl hB Tryz.isAgg3 rfl rfl rfl (fun h => h)) rfl ?_
  refine VO.opY rfl rfl rfl rfl aK1b ?_
  refine OpE.val (W := NoB) (OpV.fieldAddrO 1 rfl Tryz.underlying84 rfl rfl Tryz.sizeOf3 rfl) rfl ?_
  refine VO.opY rfl rfl rfl rfl aK1b ?_
  refine OpE.val (W := NoB) (OpV.load_own (i := 1) rfl hB Tryz.isAgg3 rfl rfl rfl (fun h => h)) rfl ?_
  refine VO.opY rfl rfl rfl rfl aK1b ?_
  refine OpE.val (W := NoB) (OpV.eql rfl rfl rfl) rfl ?_
  refine VO.vv (OpV.pickT rfl rfl rfl rfl aK1b) ?_
  refine VO.mw ?_
  refine VO.opG rfl rfl rfl rfl (fun aK2b => ?_) (fun aK2b => ?_)
  ·replace aK2b : _ = true := aK2b
   have aK2 := aK2b
   try simp only [qq] at aK2
   refine OpE.val (W := NoB) (OpV.fieldAddrO 2 rfl Tryz.underlying84 rfl rfl Tryz.sizeOf3 rfl) rfl ?_
   refine VO.opY rfl rfl rfl rfl aK2b ?_
   refine OpE.val (W := NoB) (OpV.load_own (i := 0) rfl hB Tryz.isAgg3 rfl rfl rfl (fun h => h)) rfl ?_
   refine VO.opY rfl rfl rfl rfl aK2b ?_
   refine OpE.val (W := NoB) (OpV.fieldAddrO 2 rfl Tryz.underlying84 rfl rfl Tryz.sizeOf3 rfl) rfl ?_
   refine VO.opY rfl rfl rfl rfl aK2b ?_
   refine OpE.val (W := NoB) (OpV.load_own (i := 1) rfl hB Tryz.isAgg3 rfl rfl rfl (fun h => h)) rfl ?_
   refine VO.opY rfl rfl rfl rfl aK2b ?_
   refine OpE.val (W := NoB) (OpV.eql rfl rfl rfl) rfl ?_
   refine VO.vv (OpV.pickT rfl rfl rfl rfl aK2b) ?_
   refine VO.mw ?_
   refine VO.opG rfl rfl rfl rfl (fun aK3b => ?_) (fun aK3b => ?_)
   ·replace aK3b : _ = true := aK3b
    have aK3 := aK3b
    try simp only [qq] at aK3
    refine OpE.val (W := NoB) (OpV.fieldAddrO 3 rfl Tryz.underlying84 rfl rfl Tryz.sizeOf3 rfl) rfl ?_
    refine VO.opY rfl rfl rfl rfl aK3b ?_
    refine OpE.val (W := NoB) (OpV.load_own (i := 0) rfl hB Tryz.isAgg3 rfl rfl rfl (fun h => h)) rfl ?_
    refine VO.opY rfl rfl rfl rfl aK3b ?_
    refine OpE.val (W := NoB) (OpV.fieldAddrO 3 rfl Tryz.underlying84 rfl rfl Tryz.sizeOf3 rfl) rfl ?_
    refine VO.opY rfl rfl rfl rfl aK3b ?_
    refine OpE.val (W := NoB) (OpV.load_own (i := 1) rfl hB Tryz.isAgg3 rfl rfl rfl (fun h => h)) rfl ?_
    refine VO.opY rfl rfl rfl rfl aK3b ?_
    refine OpE.val (W := NoB) (OpV.eql rfl rfl rfl) rfl ?_
    refine VO.vv (OpV.pickT rfl rfl rfl rfl aK3b) ?_
    refine VO.mw ?_
    refine VO.opG rfl rfl rfl rfl (fun aK4b => ?_) (fun aK4b => ?_)
    ·replace aK4b : _ = true := aK4b
     have aK4 := aK4b
     try simp only [qq] at aK4
     refine OpE.val (W := NoB) (OpV.fieldAddrO 4 rfl Tryz.underlying84 rfl rfl Tryz.sizeOf82 rfl) rfl ?_
     refine VO.opY rfl rfl rfl rfl aK4b ?_
     refine OpE.val (W := NoB) (OpV.load_own (i := 0) rfl hB Tryz.isAgg82 rfl rfl rfl (fun h => h)) rfl ?_
     refine VO.opY rfl rfl rfl rfl aK4b ?_
     refine OpE.val (W := NoB) (OpV.fieldAddrO 4 rfl Tryz.underlying84 rfl rfl Tryz.sizeOf82 rfl) rfl ?_
     refine VO.opY rfl rfl rfl rfl aK4b ?_
     refine OpE.val (W := NoB) (OpV.load_own (i := 1) rfl hB Tryz.isAgg82 rfl rfl rfl (fun h => h)) rfl ?_
     refine VO.opY rfl rfl rfl rfl aK4b ?_
     refine OpE.call rfl hB rfl Tryz.call34 rfl (SpecN.spec (slices_Equal_str hl hl')) ?_
     rintro _ rfl
     refine VO.vv (OpV.pickT rfl rfl rfl rfl aK4b) ?_
     refine VO.mb ?_
     refine VO.nil ?_
     refine VC.ret ?_
     exact Exists.intro _ (And.intro (RetN.one Tryz.results33 (ResN.v rfl)) (by unfold sameM; simp_all))
    ·replace aK4b : _ = false := aK4b
     have aK4 := aK4b
     try simp only [qq] at aK4
     refine VO.opX rfl rfl rfl rfl aK4b ?_
     refine VO.opX rfl rfl rfl rfl aK4b ?_
     refine VO.opX rfl rfl rfl rfl aK4b ?_
     refine VO.opX rfl rfl rfl rfl aK4b ?_
     refine VO.vv (OpV.pickF rfl rfl rfl rfl aK4b) ?_
     refine VO.mb ?_
     refine VO.nil ?_
     refine VC.ret ?_
     exact Exists.intro _ (And.intro (RetN.one Tryz.results33 (ResN.v rfl)) (by unfold sameM; simp_all))
   ·replace aK3b : _ = false := aK3b
    have aK3 := aK3b
    try simp only [qq] at aK3
    refine VO.opX rfl rfl rfl rfl aK3b ?_
    refine VO.opX rfl rfl rfl rfl aK3b ?_
    refine VO.opX rfl rfl rfl rfl aK3b ?_
    refine VO.opX rfl rfl rfl rfl aK3b ?_
    refine VO.vv (OpV.pickF rfl rfl rfl rfl aK3b) ?_
    refine VO.mw ?_
    refine VO.opX rfl rfl rfl rfl rfl ?_
    refine VO.opX rfl rfl rfl rfl rfl ?_
    refine VO.opX rfl rfl rfl rfl rfl ?_
    refine VO.opX rfl rfl rfl rfl rfl ?_
    refine VO.opX rfl rfl rfl rfl rfl ?_
    refine VO.vv (OpV.pickF rfl rfl rfl rfl rfl) ?_
    refine VO.mb ?_
    refine VO.nil ?_
    refine VC.ret ?_
    exact Exists.intro _ (And.intro (RetN.one Tryz.results33 (ResN.v rfl)) (by unfold sameM; simp_all))
  ·replace aK2b : _ = false := aK2b
   have aK2 := aK2b
   try simp only [qq] at aK2
   refine VO.opX rfl rfl rfl rfl aK2b ?_
   refine VO.opX rfl rfl rfl rfl aK2b ?_
   refine VO.opX rfl rfl rfl rfl aK2b ?_
   refine VO.opX rfl rfl rfl rfl aK2b ?_
   refine VO.vv (OpV.pickF rfl rfl rfl rfl aK2b) ?_
   refine VO.mw ?_
   refine VO.opX rfl rfl rfl rfl rfl ?_
   refine VO.opX rfl rfl rfl rfl rfl ?_
   refine VO.opX rfl rfl rfl rfl rfl ?_
   refine VO.opX rfl rfl rfl rfl rfl ?_
   refine VO.opX rfl rfl rfl rfl rfl ?_
   refine VO.vv (OpV.pickF rfl rfl rfl rfl rfl) ?_
   refine VO.mw ?_
   refine VO.opX rfl rfl rfl rfl rfl ?_
   refine VO.opX rfl rfl rfl rfl rfl ?_
   refine VO.opX rfl rfl rfl rfl rfl ?_
   refine VO.opX rfl rfl rfl rfl rfl ?_
   refine VO.opX rfl rfl rfl rfl rfl ?_
   refine VO.vv (OpV.pickF rfl rfl rfl rfl rfl) ?_
   refine VO.mb ?_
   refine VO.nil ?_
   refine VC.ret ?_
   exact Exists.intro _ (And.intro (RetN.one Tryz.results33 (ResN.v rfl)) (by unfold sameM; simp_all))
 ·replace aK1b : _ = false := aK1b
  have aK1 := aK1b
  try simp only [qq] at aK1
  refine VO.opX rfl rfl rfl rfl aK1b ?_
  refine VO.opX rfl rfl rfl rfl aK1b ?_
  refine VO.opX rfl rfl rfl rfl aK1b ?_
  refine VO.opX rfl rfl rfl rfl aK1b ?_
  refine VO.vv (OpV.pickF rfl rfl rfl rfl aK1b) ?_
  refine VO.mw ?_
  refine VO.opX rfl rfl rfl rfl rfl ?_
  refine VO.opX rfl rfl rfl rfl rfl ?_
  refine VO.opX rfl rfl rfl rfl rfl ?_
  refine VO.opX rfl rfl rfl rfl rfl ?_
  refine VO.opX rfl rfl rfl rfl rfl ?_
  refine VO.vv (OpV.pickF rfl rfl rfl rfl rfl) ?_
  refine VO.mw ?_
  refine VO.opX rfl rfl rfl rfl rfl ?_
  refine VO.opX rfl rfl rfl rfl rfl ?_
  refine VO.opX rfl rfl rfl rfl rfl ?_
  refine VO.opX rfl rfl rfl rfl rfl ?_
  refine VO.opX rfl rfl rfl rfl rfl ?_
  refine VO.vv (OpV.pickF rfl rfl rfl rfl rfl) ?_
  refine VO.mw ?_
  refine VO.opX rfl rfl rfl rfl rfl ?_
  refine VO.opX rfl rfl rfl rfl rfl ?_
  refine VO.opX rfl rfl rfl rfl rfl ?_
  refine VO.opX rfl rfl rfl rfl rfl ?_
  refine VO.opX rfl rfl rfl rfl rfl ?_
  refine VO.vv (OpV.pickF rfl rfl rfl rfl rfl) ?_
  refine VO.mb ?_
  refine VO.nil ?_
  refine VC.ret ?_
  exact Exists.intro _ (And.intro (RetN.one Tryz.results33 (ResN.v rfl)) (by unfold sameM; simp_all))
theorem slices_EqualFunc_mh {xs ys : List Mach} {F : FuncId} {cs : List AV} {e : Mach → Mach → Bool} (hl : xs.length ≤ 1000000000) (hl' : ys.length ≤ 1000000000) (hcall : ∀ us w, (callFunc F us).run Tryz.prog w = .ok (.enter F us) w) (hF : ∀ i, i < xs.length → Spec Tryz.prog F ([avT (xs.getD i default), avT (ys.getD i default)] ++ cs) (fun y => y = avB (e (xs.getD i default) (ys.getD i default)))) :
  SpecN Tryz.prog 35 [avL xs, avL ys, .fn F cs] (fun y => y = avB (eqLs e xs ys)) := by
 refine SpecN.of_VCN Tryz.func35 rfl Tryz.ntmps35 (Nle rfl) fun w A hB => ?_
 refine VC.sr ?_
 refine VO.mb ?_
 refine VO.nil ?_
 refine VC.seq ?_
 refine VC.sr ?_
 refine VO.mw ?_
 refine VO.vv (OpV.len_im rfl Tryz.underlying66 rfl) ?_
 refine VO.mw ?_
 refine VO.vv (OpV.len_im rfl Tryz.underlying66 rfl) ?_
 refine VO.vv (OpV.neq rfl rfl rfl) ?_
 refine VO.nil ?_
 refine VC.cond rfl (fun aH1b => ?_) (fun aH1b => ?_)
 ·have aH1 := aH1b
  try simp only [qq] at aH1
  refine VC.sr ?_
  refine VO.mb ?_
  refine VO.nil ?_
  refine VC.ret ?_
  exact Exists.intro _ (And.intro (RetN.one Tryz.results35 (ResN.v rfl)) (by first | rw [eqLs_len (by omega)] | rw [eqLs_at (d := default) (q := q) (by omega) (not_true_false h2b)] | rw [eqLs_all (d := default) (by omega) (fun j hj => hn j (by omega))]))
 ·have aH1 := aH1b
  try simp only [qq] at aH1
  refine VC.skip ?_
  refine VC.seq ?_
  refine VC.sr ?_
  refine VO.mw ?_
  refine VO.vv (OpV.len_im rfl Tryz.underlying66 rfl) ?_
  refine VO.mw ?_
  refine VO.nil ?_
  refine VC.block ?_
  refine VC.loopK [(1, _), (2, _), (15, _), (16, _)] ⟨rfl, rfl, rfl, rfl, trivial⟩ ({q : Nat // q ≤ xs.length ∧ ∀ j, j < q → e (xs.getD j default) (ys.getD j default) = true}) (fun (iZ : {q : Nat // q ≤ xs.length ∧ ∀ j, j < q → e (xs.getD j default) (ys.getD j default) = true}) => match iZ with | ⟨q, hq, hn⟩ => [(17, avI (q : Int))]) (fun (iZ : {q : Nat // q ≤ xs.length ∧ ∀ j, j < q → e (xs.getD j default) (ys.getD j default) = true}) => match iZ with | ⟨q, hq, hn⟩ => []) (fun (iZ : {q : Nat // q ≤ xs.length ∧ ∀ j, j < q → e (xs.getD j default) (ys.getD j default) = true}) => match iZ with | ⟨q, hq, hn⟩ => 0) (fun (iZ : {q : Nat // q ≤ xs.length ∧ ∀ j, j < q → e (xs.getD j default) (ys.getD j default) = true}) => match iZ with | ⟨q, hq, hn⟩ => xs.length - q) ⟨0, Nat.zero_le _, fun j hj => absurd hj (Nat.not_lt_zero j)⟩ (Le.mk hB [] ⟨rfl, rfl, rfl, rfl, rfl, trivial⟩ rfl rfl (Nat.le_refl _)) ?_
  rintro ⟨q, hq, hn⟩
  show VC _ _ _ _ ⟨[(17, avI (q : Int))] ++ [(1, _), (2, _), (15, _), (16, _)], [], 0⟩
  refine VC.sr ?_
  refine VO.vv (OpV.lss rfl rfl rfl) ?_
  refine VO.nil ?_
  refine VC.seq ?_
  refine VC.cond rfl (fun aH2b => ?_) (fun aH2b => ?_)
  ·have aH2 := aH2b
   try simp only [qq] at aH2
   refine VC.skip ?_
   refine VC.seq ?_
   refine VC.block ?_
   refine VC.sr ?_
   refine VO.mw ?_
   refine VO.vv (OpV.indexAddr_E rfl Tryz.underlying66 Tryz.sizeOf84 rfl rfl rfl (by omega)) ?_
   refine VO.vv (OpV.loadK_at rfl hB OutW.no Tryz.isAgg84 Tryz.sizeOf84 rfl rfl) ?_
   refine VO.op rfl (OpE.alloc rfl hB rfl Tryz.zeroValue84 rfl ?_)
   intro g8
   refine VO.mb ?_
   refine VO.op rfl (OpE.store (i := 0) rfl hB rfl Tryz.sizeOf84 rfl rfl rfl rfl rfl rfl (Nle rfl) trivial ?_)
   refine VO.nil ?_
   refine VC.sr ?_
   refine VO.mw ?_
   refine VO.mw ?_
   refine VO.vv (OpV.indexAddr_E rfl Tryz.underlying66 Tryz.sizeOf84 rfl rfl rfl (by omega)) ?_
   refine VO.vv (OpV.loadK_at rfl hB OutW.no Tryz.isAgg84 Tryz.sizeOf84 rfl rfl) ?_
   refine VO.op rfl (OpE.alloc rfl hB rfl Tryz.zeroValue84 rfl ?_)
   intro g9
   refine VO.op rfl (OpE.store (i := 1) rfl hB rfl Tryz.sizeOf84 rfl rfl rfl rfl rfl rfl (Nle rfl) trivial ?_)
   refine VO.nil ?_
   refine VC.sr ?_
   refine VO.mw ?_
   refine VO.vv (OpV.loadK_own (i := 0) rfl hB Tryz.isAgg84 Tryz.sizeOf84 rfl rfl rfl (fun h => h)) ?_
   refine VO.vv (OpV.loadK_own (i := 1) rfl hB Tryz.isAgg84 Tryz.sizeOf84 rfl rfl rfl (fun h => h)) ?_
   refine VO.op rfl (OpE.callF rfl hB rfl hcall rfl rfl (hF q (by omega)) ?_)
   rintro _ rfl
   refine VO.vv (OpV.not rfl rfl) ?_
   refine VO.nil ?_
   refine VC.cond rfl (fun h2b => ?_) (fun h2b => ?_)
   ·have h2 := h2b
    try simp only [qq] at h2
    refine VC.sr ?_
    refine VO.mb ?_
    refine VO.nil ?_
    refine VC.ret ?_
    exact Exists.intro _ (And.intro (RetN.one Tryz.results35 (ResN.v rfl)) (by first | rw [eqLs_len (by omega)] | rw [eqLs_at (d := default) (q := q) (by omega) (not_true_false h2b)] | rw [eqLs_all (d := default) (by omega) (fun j hj => hn j (by omega))]))
   ·have h2 := h2b
    try simp only [qq] at h2
    refine VC.skip ?_
    refine VC.region ?_
    refine VO.vv (OpV.add rfl rfl rfl (by unfold fits; omega)) ?_
    refine VO.mw ?_
    refine VO.nil ?_
    exact Exists.intro (⟨q + 1, by omega, lt_succ_cases hn (not_false_true h2b)⟩) (And.intro (Le.mk hB [] ⟨rfl, rfl, rfl, rfl, rfl, trivial⟩ rfl rfl (Nat.le_refl _)) (by first | omega | (show _ < _; omega) | (simp only []; omega)))
  ·have aH2 := aH2b
   try simp only [qq] at aH2
   refine VC.exit ?_
   refine VC.sr ?_
   refine VO.mb ?_
   refine VO.nil ?_
   refine VC.ret ?_
   exact Exists.intro _ (And.intro (RetN.one Tryz.results35 (ResN.v rfl)) (by first | rw [eqLs_len (by omega)] | rw [eqLs_at (d := default) (q := q) (by omega) (not_true_false h2b)] | rw [eqLs_all (d := default) (by omega) (fun j hj => hn j (by omega))]))
set_option maxHeartbeats 40000000 in
theorem linesStay_any (a0 : Option Addr) (cap0 : Nat) (L : List Int) (w : World) (hin : Inp w a0 L) :
  Calls Tryz.prog 4 #[.slice a0 L.length cap0] w fun e w' => e = .returned (.bool true) ∧ Chg NoB w w' := by
 refine law_calls Tryz.func4 rfl Tryz.ntmps4 (Nle rfl) Tryz.results4 ?_
 have hB := B0.ok w (fun _ => True) 119
 have hnew : True := trivial
 refine VC.sr ?_
 refine VO.mb ?_
 refine VO.nil ?_
 refine VC.sr ?_
 refine VO.mw ?_
 refine VO.vv (OpV.build (pls := #[(0, 1), (1, 1)]) rfl Tryz.zeroValue25 Tryz.underlying25 (fun w => by kernel_rfl) rfl rfl) ?_
 refine VO.op rfl (OpE.box rfl hB rfl rfl rfl ?_)
 intro g1
 refine VO.mw ?_
 refine VO.vv (OpV.build (pls := #[(0, 1), (1, 1)]) rfl Tryz.zeroValue25 Tryz.underlying25 (fun w => by kernel_rfl) rfl rfl) ?_
 refine VO.op rfl (OpE.box rfl hB rfl rfl rfl ?_)
 intro g2
 refine VO.mb ?_
 refine VO.mb ?_
 refine VO.nil ?_
 refine VC.newB (i := 0) (g := g1) rfl rfl (fun hg1 => ?_)
 refine VC.newB (i := 1) (g := g2) rfl rfl (fun hg2 => ?_)
 have hGX := txi_base (A := fun _ => True) (nt := 119) hin
 obtain ⟨⟨hms, hm0, hm1⟩, hk1⟩ := mnV_ok (L := L) (k := 0)
 obtain ⟨⟨hns, hnl⟩, hk2⟩ := nlV_ok (L := L) (k := (mnV L 0).2)
 obtain ⟨K1, hK1⟩ : ∃ z, (mnV L 0).2 = z := ⟨_, rfl⟩
 rw [hK1] at hk1 hk2
 refine VC.sr ?_
 refine VO.mw ?_
 refine VO.op rfl (OpE.callHX (rest := [_]) txi_stab hGX rfl hB rfl Tryz.call23 rfl rfl (machines_E (k := 0) (p := g1) (a0 := a0) (cap := cap0) (L := L) (by omega) hg1) (List.Perm.refl _) (fun _ _ => trivial) ?_)
 rintro _ _ ⟨rfl, rfl⟩
 refine VO.mw ?_
 refine VO.op rfl (OpE.callHX (rest := [_]) txi_stab hGX rfl hB rfl Tryz.call23 rfl rfl (machines_E (k := 0) (p := g2) (a0 := a0) (cap := cap0) (L := L) (by omega) hg2) (List.Perm.swap _ _ _) (fun _ _ => trivial) ?_)
 rintro _ _ ⟨rfl, rfl⟩
 refine VO.mw ?_
 refine VO.op rfl (OpE.callHX (rest := [_]) txi_stab hGX rfl hB rfl Tryz.call24 rfl rfl (needList_E (k := (mnV L 0).2) (p := g1) (a0 := a0) (cap := cap0) (L := L) (by omega) hg1) (List.Perm.swap _ _ _) (fun _ _ => trivial) ?_)
 rintro _ _ ⟨rfl, rfl⟩
 refine VO.mw ?_
 refine VO.op rfl (OpE.callHX (rest := [_]) txi_stab hGX rfl hB rfl Tryz.call24 rfl rfl (needList_E (k := (mnV L 0).2) (p := g2) (a0 := a0) (cap := cap0) (L := L) (by omega) hg2) (List.Perm.swap _ _ _) (fun _ _ => trivial) ?_)
 rintro _ _ ⟨rfl, rfl⟩
 refine VO.mb ?_
 refine VO.mb ?_
 refine VO.mb ?_
 refine VO.mb ?_
 refine VO.nil ?_
 refine VC.seq ?_
 obtain ⟨ms, hme⟩ : ∃ s, (mnV L 0).1 = s := ⟨_, rfl⟩
 obtain ⟨ns, hne⟩ : ∃ s, (nlV L (mnV L 0).2).1 = s := ⟨_, rfl⟩
 obtain ⟨K2, hK2⟩ : ∃ z, (nlV L (mnV L 0).2).2 = z := ⟨_, rfl⟩
 rw [hme] at hms hm0 hm1
 rw [hne] at hns hnl
 rw [hK1] at hne hK2
 rw [hK2] at hk2
 refine VC.le _ (Le.recast (t := 5) (y := avL ms) rfl (fun w Z u h => by rw [← hme]; exact h)) ?_
 refine VC.le _ (Le.recast (t := 6) (y := avL ms) rfl (fun w Z u h => by rw [← hme]; exact h)) ?_
 refine VC.le _ (Le.recast (t := 7) (y := avL ns) rfl (fun w Z u h => by rw [hK1] at h; rw [← hne]; exact h)) ?_
 refine VC.le _ (Le.recast (t := 8) (y := avL ns) rfl (fun w Z u h => by rw [hK1] at h; rw [← hne]; exact h)) ?_
 refine VC.le _ (Le.pickH [1] rfl rfl) ?_
 refine VC.le _ (Le.perm (hp := [bxStr g1 a0 cap0 L K2]) (by have e : (nlV L (mnV L 0).2).2 = K2 := by { rw [hK1]; exact hK2 }; show [bxStr g1 a0 cap0 L (nlV L (mnV L 0).2).2].Perm _; rw [e])) ?_
 refine VC.region ?_
 refine VO.mw ?_
 refine VO.mw ?_
 refine VO.mw ?_
 refine VO.op rfl (OpE.callHX (rest := []) txi_stab hGX rfl hB rfl Tryz.call25 rfl rfl (linePlan_X (k := K2) (p := g1) (a0 := a0) (cap := cap0) (L := L) (by omega) hms hm0 hm1 (by omega) hg1) (List.Perm.refl _) (fun _ _ => trivial) ?_)
 rintro _ _ ⟨pl, K3, ⟨hpl, hK3⟩, rfl, rfl⟩
 refine VO.mb ?_
 refine VO.nil ?_
 refine VC.sr ?_
 refine VO.mw ?_
 refine VO.op rfl (OpE.callR rfl hB rfl Tryz.call26 (slices_Clone_R (by omega)) (ArgsP.cons (ArgP.ev rfl) (ArgsP.nil)) ?_)
 intro u46
 refine VO.le _ (Le.rowI (t := 46) (i := 1) (xs := pl) hB hnew rfl rfl rfl) ?_
 refine VO.mb ?_
 refine VO.nil ?_
 refine VC.sr ?_
 refine VO.mw ?_
 refine VO.mw ?_
 refine VO.mw ?_
 refine VO.op rfl (OpE.callH (rest := _ :: _) rfl hB rfl Tryz.call27 rfl rfl (line_CyclesO hms hns (by omega)) (List.Perm.refl _) (fun _ _ => trivial) ?_)
 rintro _ _ ⟨u51, n51, l51, c51, rfl, hn51, rfl⟩
 refine VO.mw ?_
 refine VO.vv (OpV.extract rfl rfl rfl) ?_
 refine VO.vv (OpV.extract rfl rfl rfl) ?_
 refine VO.mb ?_
 refine VO.mb ?_
 refine VO.nil ?_
 refine VC.sr ?_
 refine VO.mw ?_
 refine VO.op rfl (OpE.callH (rest := _ :: _) rfl hB rfl Tryz.call28 rfl rfl (spoil_I2 hn51) (List.Perm.refl _) (fun _ _ => trivial) ?_)
 rintro _ _ ⟨x1, rfl⟩
 refine VO.le _ (Le.drop 1) ?_
 refine VO.nil ?_
 refine VC.sr ?_
 refine VO.mw ?_
 refine VO.mw ?_
 refine VO.op rfl (OpE.callH (rest := _ :: _) rfl hB rfl Tryz.call29 rfl rfl (line_BalanceO hms hns) (List.Perm.refl _) (fun _ _ => trivial) ?_)
 rintro _ _ ⟨u59, n59, l59, a59, b59, c59, rfl, hn59, rfl⟩
 refine VO.mw ?_
 refine VO.vv (OpV.extract rfl rfl rfl) ?_
 refine VO.vv (OpV.extract rfl rfl rfl) ?_
 refine VO.vv (OpV.extract rfl rfl rfl) ?_
 refine VO.vv (OpV.extract rfl rfl rfl) ?_
 refine VO.mb ?_
 refine VO.mb ?_
 refine VO.mb ?_
 refine VO.mb ?_
 refine VO.nil ?_
 refine VC.sr ?_
 refine VO.mw ?_
 refine VO.op rfl (OpE.callH (rest := _ :: _) rfl hB rfl Tryz.call28 rfl rfl (spoil_I2 hn59) (List.Perm.refl _) (fun _ _ => trivial) ?_)
 rintro _ _ ⟨x2, rfl⟩
 refine VO.le _ (Le.drop 1) ?_
 refine VO.nil ?_
 refine VC.sr ?_
 refine VO.mw ?_
 refine VO.mw ?_
 refine VO.op rfl (OpE.callH (rest := _ :: _) rfl hB rfl Tryz.call30 rfl rfl (line_FirstO12 hms hns (by omega)) (List.Perm.refl _) (fun _ _ => trivial) ?_)
 rintro _ _ ⟨u69, n69, l69, b69, c69, rfl, hn69, rfl⟩
 refine VO.mw ?_
 refine VO.vv (OpV.extract rfl rfl rfl) ?_
 refine VO.vv (OpV.extract rfl rfl rfl) ?_
 refine VO.vv (OpV.extract rfl rfl rfl) ?_
 refine VO.mb ?_
 refine VO.mb ?_
 refine VO.mb ?_
 refine VO.nil ?_
 refine VC.sr ?_
 refine VO.mw ?_
 refine VO.op rfl (OpE.callH (rest := _ :: _) rfl hB rfl Tryz.call28 rfl rfl (spoil_I2 hn69) (List.Perm.refl _) (fun _ _ => trivial) ?_)
 rintro _ _ ⟨x3, rfl⟩
 refine VO.le _ (Le.drop 1) ?_
 refine VO.nil ?_
 refine VC.sr ?_
 refine VO.mw ?_
 refine VO.op rfl (OpE.callHX (rest := []) txi_stab hGX rfl hB rfl Tryz.call31 rfl rfl (line_X (k := K3) (p := g1) (a0 := a0) (cap := cap0) (L := L) (by omega) hg1) (List.Perm.refl _) (fun _ _ => trivial) ?_)
 rintro _ _ ⟨d, e, K4, ⟨hdl, hel⟩, rfl, rfl⟩
 refine VO.mw ?_
 refine VO.vv (OpV.extract rfl rfl rfl) ?_
 refine VO.vv (OpV.extract rfl rfl rfl) ?_
 refine VO.mb ?_
 refine VO.mb ?_
 refine VO.nil ?_
 refine VC.seq ?_
 refine VC.le _ (Le.drop 1) ?_
 refine VC.region ?_
 refine VO.mw ?_
 refine VO.op rfl (OpE.callR rfl hB rfl Tryz.call26 (slices_Clone_R (by omega)) (ArgsP.cons (ArgP.ev rfl) (ArgsP.nil)) ?_)
 intro u81
 refine VO.le _ (Le.rowI (t := 81) (i := 0) (xs := d) hB hnew rfl rfl rfl) ?_
 refine VO.mw ?_
 refine VO.op rfl (OpE.callR rfl hB rfl Tryz.call26 (slices_Clone_R (by omega)) (ArgsP.cons (ArgP.ev rfl) (ArgsP.nil)) ?_)
 intro u83
 refine VO.le _ (Le.rowI (t := 83) (i := 0) (xs := e) hB hnew rfl rfl rfl) ?_
 refine VO.mb ?_
 refine VO.mb ?_
 refine VO.nil ?_
 refine VC.sr ?_
 refine VO.mw ?_
 refine VO.mw ?_
 refine VO.op rfl (OpE.callH0 rfl hB rfl Tryz.call32 rfl rfl (line_LeaveO) (List.Perm.refl _) (fun _ _ => trivial) ?_)
 rintro _ _ ⟨u87, rfl, rfl⟩
 refine VO.mw ?_
 refine VO.vv (OpV.extract rfl rfl rfl) ?_
 refine VO.vv (OpV.extract rfl rfl rfl) ?_
 refine VO.mb ?_
 refine VO.mb ?_
 refine VO.nil ?_
 refine VC.sr ?_
 refine VO.mw ?_
 refine VO.op rfl (OpE.callH0 rfl hB rfl Tryz.call28 rfl rfl (spoil_I) (List.Perm.refl _) (fun _ _ => trivial) ?_)
 rintro _ _ ⟨x4, rfl⟩
 refine VO.le _ (Le.drop 1) ?_
 refine VO.nil ?_
 refine VC.sr ?_
 refine VO.mb ?_
 refine VO.nil ?_
 refine VC.sr ?_
 refine VO.mw ?_
 refine VO.mw ?_
 refine VO.mw ?_
 refine VO.op rfl (OpE.callL rfl hB rfl Tryz.call35 (slices_EqualFunc_mh (e := sameM) (cs := []) (by omega) (by omega) Tryz.call33 (fun i hi => (linesStay1 (hms.c i) (hms.c i)).spec)) (ArgsP.cons (ArgP.ev rfl) (ArgsP.cons (ArgP.ev rfl) (ArgsP.cons (ArgP.fn0 rfl) (ArgsP.nil)))) ?_)
 rintro _ rfl
 refine VO.le _ (Le.boolT (t := 95) rfl (eqLs_self sameM_self _)) ?_
 refine VO.mw ?_
 refine VO.opY rfl rfl rfl rfl rfl ?_
 refine OpE.val (W := NoB) (OpV.move (.inl rfl) rfl) rfl ?_
 refine VO.opY rfl rfl rfl rfl rfl ?_
 refine OpE.val (W := NoB) (OpV.move (.inl rfl) rfl) rfl ?_
 refine VO.opY rfl rfl rfl rfl rfl ?_
 refine OpE.call rfl hB rfl Tryz.call36 rfl (SpecN.spec (slices_Equal_need (by omega) (by omega))) ?_
 rintro _ rfl
 refine VO.le _ (Le.boolT (t := 99) rfl (eqLs_self eqNd_self _)) ?_
 refine VO.vv (OpV.pickT rfl rfl rfl rfl rfl) ?_
 refine VO.mw ?_
 refine VO.opY rfl rfl rfl rfl rfl ?_
 refine OpE.val (W := NoB) (OpV.move (.inl rfl) rfl) rfl ?_
 refine VO.opY rfl rfl rfl rfl rfl ?_
 refine OpE.val (W := NoB) (OpV.move (.inl rfl) rfl) rfl ?_
 refine VO.opY rfl rfl rfl rfl rfl ?_
 refine OpE.call rfl hB rfl Tryz.call37 rfl (SpecN.spec (slices_Equal_int (by omega) (by omega))) ?_
 rintro _ rfl
 refine VO.le _ (Le.boolT (t := 104) rfl (decide_eq_true rfl)) ?_
 refine VO.vv (OpV.pickT rfl rfl rfl rfl rfl) ?_
 refine VO.mw ?_
 refine VO.opY rfl rfl rfl rfl rfl ?_
 refine OpE.val (W := NoB) (OpV.move (.inl rfl) rfl) rfl ?_
 refine VO.opY rfl rfl rfl rfl rfl ?_
 refine OpE.val (W := NoB) (OpV.move (.inl rfl) rfl) rfl ?_
 refine VO.opY rfl rfl rfl rfl rfl ?_
 refine OpE.call rfl hB rfl Tryz.call37 rfl (SpecN.spec (slices_Equal_int (by omega) (by omega))) ?_
 rintro _ rfl
 refine VO.le _ (Le.boolT (t := 109) rfl (decide_eq_true rfl)) ?_
 refine VO.vv (OpV.pickT rfl rfl rfl rfl rfl) ?_
 refine VO.mw ?_
 refine VO.opY rfl rfl rfl rfl rfl ?_
 refine OpE.val (W := NoB) (OpV.move (.inl rfl) rfl) rfl ?_
 refine VO.opY rfl rfl rfl rfl rfl ?_
 refine OpE.val (W := NoB) (OpV.move (.inl rfl) rfl) rfl ?_
 refine VO.opY rfl rfl rfl rfl rfl ?_
 refine OpE.call rfl hB rfl Tryz.call37 rfl (SpecN.spec (slices_Equal_int (by omega) (by omega))) ?_
 rintro _ rfl
 refine VO.le _ (Le.boolT (t := 114) rfl (decide_eq_true rfl)) ?_
 refine VO.vv (OpV.pickT rfl rfl rfl rfl rfl) ?_
 refine VO.mw ?_
 refine VO.opY rfl rfl rfl rfl rfl ?_
 refine OpE.call rfl hB rfl Tryz.call22 rfl (SpecN.spec (rk_ready)) ?_
 rintro _ rfl
 refine VO.vv (OpV.pickT rfl rfl rfl rfl rfl) ?_
 refine VO.mb ?_
 refine VO.nil ?_
 refine VC.ret ?_
 exact And.intro rfl rfl
end
end Go.Proofs.YtcploodfholkkaaGreatDoor
