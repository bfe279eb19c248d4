/- Part 3 of a proof: the walks and laws that it needs. -/
import Derived.Test.YtemnnmohdpabhaaGreatDoorZL2
namespace Go.Proofs.YtemnnmohdpabhaaGreatDoor
open Go.RowKit
set_option linter.unusedVariables false
set_option linter.unusedSimpArgs false
set_option maxRecDepth 100000 in
theorem line_canFault {l : List ByteArray} (hl : l.length ≤ 1000000000) (hb : ∀ i, (l.getD i ByteArray.empty).size ≤ 1000000000) :
  SpecN Tryz.prog 241 [avStrs l] (fun y => y = avI (canF l)) := by
 refine SpecN.of_VCN Tryz.func241 rfl Tryz.ntmps241 (Nle rfl) fun w A hB => ?_
 have hnew : True := trivial
 refine VC.sr ?_
 refine VO.ma rfl rfl rfl rfl ?_
 refine VO.nil ?_
 refine VC.seq ?_
 refine VC.sr ?_
 refine VO.mv rfl rfl rfl rfl ?_
 refine VO.val rfl rfl (OpV.len_im rfl Tryz.underlying40 rfl) ?_
 refine VO.val rfl rfl (OpV.gtr rfl rfl rfl) ?_
 refine VO.nil ?_
 refine VC.cond rfl (fun aH1b => ?_) (fun aH1b => ?_)
 ·have aH1 := aH1b
  try simp only [qqT, qqF, qqN, qqM, qqL, qqE] at aH1
  refine VC.sr ?_
  refine VO.ma rfl rfl rfl rfl ?_
  refine VO.nil ?_
  refine VC.ret ?_
  exact Exists.intro _ (And.intro (RetN.one Tryz.results241 (ResN.v rfl)) (by rw [canF_big (by omega)]))
 ·have aH1 := aH1b
  try simp only [qqT, qqF, qqN, qqM, qqL, qqE] at aH1
  refine VC.skip ?_
  refine VC.seq ?_
  refine VC.sr ?_
  refine VO.mv rfl rfl rfl rfl ?_
  refine VO.val rfl rfl (OpV.len_im rfl Tryz.underlying40 rfl) ?_
  refine VO.mv rfl rfl rfl rfl ?_
  refine VO.nil ?_
  refine VC.block ?_
  refine VC.loopK [] trivial ({q : Nat // q ≤ l.length ∧ ∀ j, j < q → canE l j = 0}) (fun (iZ : {q : Nat // q ≤ l.length ∧ ∀ j, j < q → canE l j = 0}) => match iZ with | ⟨q, hq, hn⟩ => [(0, avStrs l), (8, avStrs l), (9, avI l.length), (10, avI (q : Int))]) (fun (iZ : {q : Nat // q ≤ l.length ∧ ∀ j, j < q → canE l j = 0}) => match iZ with | ⟨q, hq, hn⟩ => []) (fun (iZ : {q : Nat // q ≤ l.length ∧ ∀ j, j < q → canE l j = 0}) => match iZ with | ⟨q, hq, hn⟩ => 0) (fun (iZ : {q : Nat // q ≤ l.length ∧ ∀ j, j < q → canE l j = 0}) => match iZ with | ⟨q, hq, hn⟩ => l.length - q) ⟨0, Nat.zero_le _, fun j hj => absurd hj (Nat.not_lt_zero j)⟩ (Le.mk hB [] ⟨rfl, rfl, rfl, rfl, trivial⟩ rfl rfl (Nat.le_refl _)) ?_
  rintro ⟨q, hq, hn⟩
  show VC _ _ _ _ ⟨[(0, avStrs l), (8, avStrs l), (9, avI l.length), (10, avI (q : Int))] ++ [], [], 0⟩
  refine VC.sr ?_
  refine VO.val rfl rfl (OpV.lss rfl rfl rfl) ?_
  refine VO.nil ?_
  refine VC.seq ?_
  refine VC.cond rfl (fun hib => ?_) (fun hib => ?_)
  ·have hi := hib
   try simp only [qqT, qqF, qqN, qqM, qqL, qqE] at hi
   refine VC.skip ?_
   refine VC.seq ?_
   refine VC.block ?_
   refine VC.sr ?_
   refine VO.mv rfl rfl rfl rfl ?_
   refine VO.val rfl rfl (OpV.indexAddr_1 rfl Tryz.underlying40 Tryz.sizeOf9 rfl rfl rfl (by omega)) ?_
   refine VO.val rfl rfl (OpV.load_at rfl hB OutW.no Tryz.isAgg9 rfl rfl) ?_
   refine VO.ma rfl rfl rfl rfl ?_
   refine VO.ma rfl rfl rfl rfl ?_
   refine VO.nil ?_
   refine VC.seq ?_
   refine VC.sr ?_
   refine VO.mv rfl rfl rfl rfl ?_
   refine VO.op rfl (OpE.call rfl hB rfl Tryz.call181 rfl (SpecN.spec (kit_IsKey (hb _))) ?_)
   rintro _ rfl
   refine VO.val rfl rfl (OpV.not rfl rfl) ?_
   refine VO.nil ?_
   refine VC.cond rfl (fun hkb => ?_) (fun hkb => ?_)
   ·have hk := hkb
    try simp only [qqT, qqF, qqN, qqM, qqL, qqE] at hk
    refine VC.sr ?_
    refine VO.ma rfl rfl rfl rfl ?_
    refine VO.nil ?_
    refine VC.ret ?_
    exact Exists.intro _ (And.intro (RetN.one Tryz.results241 (ResN.v rfl)) (by rw [canF_at (by omega) (by omega) hn (by rw [canE_5 hk]; decide), canE_5 hk]))
   ·have hk := hkb
    try simp only [qqT, qqF, qqN, qqM, qqL, qqE] at hk
    refine VC.skip ?_
    refine VC.sr ?_
    refine VO.mv rfl rfl rfl rfl ?_
    refine VO.val rfl rfl (OpV.gtr rfl rfl rfl) ?_
    refine VO.mv rfl rfl rfl rfl ?_
    refine VO.opG rfl rfl rfl rfl (fun aK2b => ?_) (fun aK2b => ?_)
    ·replace aK2b : _ = true := aK2b
     have aK2 := aK2b
     try simp only [qqT, qqF, qqN, qqM, qqL, qqE] at aK2
     refine OpE.val (W := NoB) (OpV.move (.inl rfl) rfl) rfl ?_
     refine VO.opY rfl rfl rfl rfl aK2b ?_
     refine OpE.val (W := NoB) (OpV.move (.inl rfl) rfl) rfl ?_
     refine VO.opY rfl rfl rfl rfl aK2b ?_
     refine OpE.val (W := NoB) (OpV.move (.inl rfl) rfl) rfl ?_
     refine VO.opY rfl rfl rfl rfl aK2b ?_
     refine OpE.val (W := NoB) (OpV.sub rfl rfl rfl (by unfold fits; omega)) rfl ?_
     refine VO.opY rfl rfl rfl rfl aK2b ?_
     refine OpE.val (W := NoB) (OpV.indexAddr_1 rfl Tryz.underlying40 Tryz.sizeOf9 rfl rfl (show ((q : Int) - 1) = ((q - 1 : Nat) : Int) by omega) (by omega)) rfl ?_
     refine VO.opY rfl rfl rfl rfl aK2b ?_
     refine OpE.val (W := NoB) (OpV.load_at rfl hB OutW.no Tryz.isAgg9 rfl rfl) rfl ?_
     refine VO.opY rfl rfl rfl rfl aK2b ?_
     refine OpE.val (W := NoB) (OpV.sleq rfl rfl rfl) rfl ?_
     refine VO.val rfl rfl (OpV.pickT rfl rfl rfl rfl aK2b) ?_
     refine VO.nil ?_
     refine VC.cond rfl (fun hsb => ?_) (fun hsb => ?_)
     ·have hs := hsb
      try simp only [qqT, qqF, qqN, qqM, qqL, qqE] at hs
      refine VC.sr ?_
      refine VO.ma rfl rfl rfl rfl ?_
      refine VO.nil ?_
      refine VC.ret ?_
      exact Exists.intro _ (And.intro (RetN.one Tryz.results241 (ResN.v rfl)) (by rw [canF_at (by omega) (by omega) hn (by rw [canE_7 hk (by omega) hs]; decide), canE_7 hk (by omega) hs]))
     ·have hs := hsb
      try simp only [qqT, qqF, qqN, qqM, qqL, qqE] at hs
      refine VC.skip ?_
      refine VC.region ?_
      refine VO.val rfl rfl (OpV.add rfl rfl rfl (by unfold fits; omega)) ?_
      refine VO.mv rfl rfl rfl rfl ?_
      refine VO.nil ?_
      exact Exists.intro (⟨q + 1, by omega, lt_succ_cases hn (canE_0 hk (.inr hs))⟩) (And.intro (Le.mk hB [] ⟨rfl, rfl, rfl, rfl, trivial⟩ rfl rfl (Nat.le_refl _)) (by first | omega | (show _ < _; omega) | (simp only []; omega)))
    ·replace aK2b : _ = false := aK2b
     have aK2 := aK2b
     try simp only [qqT, qqF, qqN, qqM, qqL, qqE] at aK2
     refine VO.opX rfl rfl rfl rfl aK2b ?_
     refine VO.opX rfl rfl rfl rfl aK2b ?_
     refine VO.opX rfl rfl rfl rfl aK2b ?_
     refine VO.opX rfl rfl rfl rfl aK2b ?_
     refine VO.opX rfl rfl rfl rfl aK2b ?_
     refine VO.opX rfl rfl rfl rfl aK2b ?_
     refine VO.val rfl rfl (OpV.pickF rfl rfl rfl rfl aK2b) ?_
     refine VO.nil ?_
     refine VC.condF rfl rfl ?_
     refine VC.skip ?_
     refine VC.region ?_
     refine VO.val rfl rfl (OpV.add rfl rfl rfl (by unfold fits; omega)) ?_
     refine VO.mv rfl rfl rfl rfl ?_
     refine VO.nil ?_
     exact Exists.intro (⟨q + 1, by omega, lt_succ_cases hn (canE_0 hk (.inl (by omega)))⟩) (And.intro (Le.mk hB [] ⟨rfl, rfl, rfl, rfl, trivial⟩ rfl rfl (Nat.le_refl _)) (by first | omega | (show _ < _; omega) | (simp only []; omega)))
  ·have hi := hib
   try simp only [qqT, qqF, qqN, qqM, qqL, qqE] at hi
   refine VC.exit ?_
   refine VC.sr ?_
   refine VO.ma rfl rfl rfl rfl ?_
   refine VO.nil ?_
   refine VC.ret ?_
   exact Exists.intro _ (And.intro (RetN.one Tryz.results241 (ResN.v rfl)) (by rw [canF_ok (by omega) (fun j hj => hn j (by omega))]))
set_option maxRecDepth 100000 in
theorem line_NeedsFault {l : List NeedS} {lo hi : Int} (hl : l.length ≤ 1000000000) (hb : ∀ i, (l.getD i default).key.size ≤ 1000000000) :
  SpecN Tryz.prog 242 [avL l, avI lo, avI hi] (fun y => y = avI (needsF l lo hi)) := by
 refine SpecN.of_VCN Tryz.func242 rfl Tryz.ntmps242 (Nle rfl) fun w A hB => ?_
 have hnew : True := trivial
 refine VC.sr ?_
 refine VO.ma rfl rfl rfl rfl ?_
 refine VO.nil ?_
 refine VC.seq ?_
 refine VC.sr ?_
 refine VO.mv rfl rfl rfl rfl ?_
 refine VO.val rfl rfl (OpV.len_im rfl Tryz.underlying28 rfl) ?_
 refine VO.val rfl rfl (OpV.gtr rfl rfl rfl) ?_
 refine VO.nil ?_
 refine VC.cond rfl (fun aH1b => ?_) (fun aH1b => ?_)
 ·have aH1 := aH1b
  try simp only [qqT, qqF, qqN, qqM, qqL, qqE] at aH1
  refine VC.sr ?_
  refine VO.ma rfl rfl rfl rfl ?_
  refine VO.nil ?_
  refine VC.ret ?_
  exact Exists.intro _ (And.intro (RetN.one Tryz.results242 (ResN.v rfl)) (by rw [needsF_big (by omega)]))
 ·have aH1 := aH1b
  try simp only [qqT, qqF, qqN, qqM, qqL, qqE] at aH1
  refine VC.skip ?_
  refine VC.seq ?_
  refine VC.sr ?_
  refine VO.mv rfl rfl rfl rfl ?_
  refine VO.val rfl rfl (OpV.len_im rfl Tryz.underlying28 rfl) ?_
  refine VO.mv rfl rfl rfl rfl ?_
  refine VO.nil ?_
  refine VC.block ?_
  refine VC.loopK [] trivial ({q : Nat // q ≤ l.length ∧ ∀ j, j < q → needE l lo hi j = 0}) (fun (iZ : {q : Nat // q ≤ l.length ∧ ∀ j, j < q → needE l lo hi j = 0}) => match iZ with | ⟨q, hq, hn⟩ => [(0, avL l), (1, avI lo), (2, avI hi), (12, avL l), (13, avI l.length), (14, avI (q : Int))]) (fun (iZ : {q : Nat // q ≤ l.length ∧ ∀ j, j < q → needE l lo hi j = 0}) => match iZ with | ⟨q, hq, hn⟩ => []) (fun (iZ : {q : Nat // q ≤ l.length ∧ ∀ j, j < q → needE l lo hi j = 0}) => match iZ with | ⟨q, hq, hn⟩ => 0) (fun (iZ : {q : Nat // q ≤ l.length ∧ ∀ j, j < q → needE l lo hi j = 0}) => match iZ with | ⟨q, hq, hn⟩ => l.length - q) ⟨0, Nat.zero_le _, fun j hj => absurd hj (Nat.not_lt_zero j)⟩ (Le.mk hB [] ⟨rfl, rfl, rfl, rfl, rfl, rfl, trivial⟩ rfl rfl (Nat.le_refl _)) ?_
  rintro ⟨q, hq, hn⟩
  show VC _ _ _ _ ⟨[(0, avL l), (1, avI lo), (2, avI hi), (12, avL l), (13, avI l.length), (14, avI (q : Int))] ++ [], [], 0⟩
  refine VC.sr ?_
  refine VO.val rfl rfl (OpV.lss rfl rfl rfl) ?_
  refine VO.nil ?_
  refine VC.seq ?_
  refine VC.cond rfl (fun aH2b => ?_) (fun aH2b => ?_)
  ·have aH2 := aH2b
   try simp only [qqT, qqF, qqN, qqM, qqL, qqE] at aH2
   refine VC.skip ?_
   refine VC.seq ?_
   refine VC.block ?_
   refine VC.sr ?_
   refine VO.mv rfl rfl rfl rfl ?_
   refine VO.val rfl rfl (OpV.indexAddr_E rfl Tryz.underlying28 Tryz.sizeOf111 rfl rfl rfl (by omega)) ?_
   refine VO.val rfl rfl (OpV.loadK_at rfl hB OutW.no Tryz.isAgg111 Tryz.sizeOf111 rfl rfl) ?_
   refine VO.op rfl (OpE.alloc rfl hB rfl Tryz.zeroValue111 rfl ?_)
   intro g8
   refine VO.ma rfl rfl rfl rfl ?_
   refine VO.op rfl (OpE.store (i := 0) rfl hB rfl Tryz.sizeOf111 rfl rfl rfl rfl rfl rfl (Nle rfl) trivial ?_)
   refine VO.nil ?_
   refine VC.block ?_
   refine VC.sr ?_
   refine VO.val rfl rfl (OpV.fieldAddrO 0 rfl Tryz.underlying111 rfl rfl Tryz.sizeOf9 rfl) ?_
   refine VO.val rfl rfl (OpV.load_own (i := 0) rfl hB Tryz.isAgg9 rfl rfl rfl (fun h => h)) ?_
   refine VO.op rfl (OpE.call rfl hB rfl Tryz.call181 rfl (SpecN.spec (kit_IsKey (hb _))) ?_)
   rintro _ rfl
   refine VO.val rfl rfl (OpV.not rfl rfl) ?_
   refine VO.ma rfl rfl rfl rfl ?_
   refine VO.nil ?_
   refine VC.cond rfl (fun hkb => ?_) (fun hkb => ?_)
   ·have hk := hkb
    try simp only [qqT, qqF, qqN, qqM, qqL, qqE] at hk
    refine VC.sr ?_
    refine VO.ma rfl rfl rfl rfl ?_
    refine VO.nil ?_
    refine VC.ret ?_
    exact Exists.intro _ (And.intro (RetN.one Tryz.results242 (ResN.v rfl)) (by rw [needsF_at (by omega) (by omega) hn (needE_5 hk) (by decide)]))
   ·have hk := hkb
    try simp only [qqT, qqF, qqN, qqM, qqL, qqE] at hk
    refine VC.seq ?_
    refine VC.draw (fun _ => NoB) hB (by kernel_rfl) ?_
    refine VA.take (i := 0) rfl (by kernel_rfl) (by kernel_rfl) (by kernel_rfl) rfl rfl (OpV.move (.inl rfl) rfl) ?_
    refine VA.take (i := 1) rfl (by kernel_rfl) (by kernel_rfl) (by kernel_rfl) rfl rfl (OpV.gtr rfl rfl rfl) ?_
    refine VA.take (i := 2) rfl (by kernel_rfl) (by kernel_rfl) (by kernel_rfl) rfl rfl (OpV.move (.inl rfl) rfl) ?_
    refine VA.split (t := 27) rfl (fun aK3b => ?_) (fun aK3b => ?_)
    ·have aK3 := aK3b
     try simp only [qqT, qqF, qqN, qqM, qqL, qqE] at aK3
     refine VA.takeY (i := 3) rfl (by kernel_rfl) (by kernel_rfl) (by kernel_rfl) rfl rfl rfl rfl aK3b (OpV.fieldAddrO 0 rfl Tryz.underlying111 rfl rfl Tryz.sizeOf9 rfl) ?_
     refine VA.takeY (i := 4) rfl (by kernel_rfl) (by kernel_rfl) (by kernel_rfl) rfl rfl rfl rfl aK3b (OpV.load_own (i := 0) rfl hB Tryz.isAgg9 rfl rfl rfl Wi.not0) ?_
     refine VA.takeY (i := 5) rfl (by kernel_rfl) (by kernel_rfl) (by kernel_rfl) rfl rfl rfl rfl aK3b (OpV.move (.inl rfl) rfl) ?_
     refine VA.takeY (i := 6) rfl (by kernel_rfl) (by kernel_rfl) (by kernel_rfl) rfl rfl rfl rfl aK3b (OpV.move (.inl rfl) rfl) ?_
     refine VA.takeY (i := 7) rfl (by kernel_rfl) (by kernel_rfl) (by kernel_rfl) rfl rfl rfl rfl aK3b (OpV.sub rfl rfl rfl (by unfold fits; omega)) ?_
     refine VA.takeY (i := 8) rfl (by kernel_rfl) (by kernel_rfl) (by kernel_rfl) rfl rfl rfl rfl aK3b (OpV.indexAddr_E rfl Tryz.underlying28 Tryz.sizeOf111 rfl rfl (show ((q : Int) - 1) = ((q - 1 : Nat) : Int) by omega) (by omega)) ?_
     refine VA.takeY (i := 9) rfl (by kernel_rfl) (by kernel_rfl) (by kernel_rfl) rfl rfl rfl rfl aK3b (OpV.fieldAddr_atO 0 rfl Tryz.underlying111 rfl rfl Tryz.sizeOf9 rfl rfl) ?_
     refine VA.takeY (i := 10) rfl (by kernel_rfl) (by kernel_rfl) (by kernel_rfl) rfl rfl rfl rfl aK3b (OpV.load_at rfl hB OutW.wi0 Tryz.isAgg9 rfl rfl) ?_
     refine VA.takeY (i := 11) rfl (by kernel_rfl) (by kernel_rfl) (by kernel_rfl) rfl rfl rfl rfl aK3b (OpV.sleq rfl rfl rfl) ?_
     refine VA.take (i := 12) rfl (by kernel_rfl) (by kernel_rfl) (by kernel_rfl) rfl rfl (OpV.pickT rfl rfl rfl rfl aK3b) ?_
     refine VA.take (i := 13) rfl (by kernel_rfl) (by kernel_rfl) (by kernel_rfl) rfl rfl (OpV.move (.inr rfl) rfl) ?_
     refine VA.done (by kernel_rfl) ?_
     refine VC.cond rfl (fun hsb => ?_) (fun hsb => ?_)
     ·have hs := hsb
      try simp only [qqT, qqF, qqN, qqM, qqL, qqE] at hs
      refine VC.sr ?_
      refine VO.ma rfl rfl rfl rfl ?_
      refine VO.nil ?_
      refine VC.ret ?_
      exact Exists.intro _ (And.intro (RetN.one Tryz.results242 (ResN.v rfl)) (by rw [needsF_at (by omega) (by omega) hn (needE_7 hk (by omega) hs) (by decide)]))
     ·have hs := hsb
      try simp only [qqT, qqF, qqN, qqM, qqL, qqE] at hs
      refine VC.sr ?_
      refine VO.val rfl rfl (OpV.fieldAddrO 1 rfl Tryz.underlying111 rfl rfl Tryz.sizeOf3 rfl) ?_
      refine VO.val rfl rfl (OpV.load_own (i := 0) rfl hB Tryz.isAgg3 rfl rfl rfl (fun h => h)) ?_
      refine VO.mv rfl rfl rfl rfl ?_
      refine VO.mv rfl rfl rfl rfl ?_
      refine VO.op rfl (OpE.call rfl hB rfl Tryz.call180 rfl (SpecN.spec (kit_Outside)) ?_)
      rintro _ rfl
      refine VO.ma rfl rfl rfl rfl ?_
      refine VO.nil ?_
      refine VC.cond rfl (fun hob => ?_) (fun hob => ?_)
      ·have ho := hob
       try simp only [qqT, qqF, qqN, qqM, qqL, qqE] at ho
       refine VC.sr ?_
       refine VO.ma rfl rfl rfl rfl ?_
       refine VO.nil ?_
       refine VC.ret ?_
       exact Exists.intro _ (And.intro (RetN.one Tryz.results242 (ResN.v rfl)) (by first | rw [needsF_at (by omega) (by omega) hn (needE_1 hk (.inr hs) ho) (by decide)] | rw [needsF_at (by omega) (by omega) hn (needE_1 hk (.inl (by omega)) ho) (by decide)]))
      ·have ho := hob
       try simp only [qqT, qqF, qqN, qqM, qqL, qqE] at ho
       refine VC.skip ?_
       refine VC.region ?_
       refine VO.val rfl rfl (OpV.add rfl rfl rfl (by unfold fits; omega)) ?_
       refine VO.mv rfl rfl rfl rfl ?_
       refine VO.nil ?_
       exact Exists.intro (⟨q + 1, by omega, lt_succ_cases hn (needE_0 hk (.inr hs) ho)⟩) (And.intro (Le.mk hB [] ⟨rfl, rfl, rfl, rfl, rfl, rfl, trivial⟩ rfl rfl (Nat.le_refl _)) (by first | omega | (show _ < _; omega) | (simp only []; omega)))
    ·have aK3 := aK3b
     try simp only [qqT, qqF, qqN, qqM, qqL, qqE] at aK3
     refine VA.takeX (i := 3) rfl (by kernel_rfl) (by kernel_rfl) (by kernel_rfl) rfl rfl rfl rfl aK3b ?_
     refine VA.takeX (i := 4) rfl (by kernel_rfl) (by kernel_rfl) (by kernel_rfl) rfl rfl rfl rfl aK3b ?_
     refine VA.takeX (i := 5) rfl (by kernel_rfl) (by kernel_rfl) (by kernel_rfl) rfl rfl rfl rfl aK3b ?_
     refine VA.takeX (i := 6) rfl (by kernel_rfl) (by kernel_rfl) (by kernel_rfl) rfl rfl rfl rfl aK3b ?_
     refine VA.takeX (i := 7) rfl (by kernel_rfl) (by kernel_rfl) (by kernel_rfl) rfl rfl rfl rfl aK3b ?_
     refine VA.takeX (i := 8) rfl (by kernel_rfl) (by kernel_rfl) (by kernel_rfl) rfl rfl rfl rfl aK3b ?_
     refine VA.takeX (i := 9) rfl (by kernel_rfl) (by kernel_rfl) (by kernel_rfl) rfl rfl rfl rfl aK3b ?_
     refine VA.takeX (i := 10) rfl (by kernel_rfl) (by kernel_rfl) (by kernel_rfl) rfl rfl rfl rfl aK3b ?_
     refine VA.takeX (i := 11) rfl (by kernel_rfl) (by kernel_rfl) (by kernel_rfl) rfl rfl rfl rfl aK3b ?_
     refine VA.take (i := 12) rfl (by kernel_rfl) (by kernel_rfl) (by kernel_rfl) rfl rfl (OpV.pickF rfl rfl rfl rfl aK3b) ?_
     refine VA.take (i := 13) rfl (by kernel_rfl) (by kernel_rfl) (by kernel_rfl) rfl rfl (OpV.move (.inr rfl) rfl) ?_
     refine VA.done (by kernel_rfl) ?_
     refine VC.condF rfl rfl ?_
     refine VC.sr ?_
     refine VO.val rfl rfl (OpV.fieldAddrO 1 rfl Tryz.underlying111 rfl rfl Tryz.sizeOf3 rfl) ?_
     refine VO.val rfl rfl (OpV.load_own (i := 0) rfl hB Tryz.isAgg3 rfl rfl rfl (fun h => h)) ?_
     refine VO.mv rfl rfl rfl rfl ?_
     refine VO.mv rfl rfl rfl rfl ?_
     refine VO.op rfl (OpE.call rfl hB rfl Tryz.call180 rfl (SpecN.spec (kit_Outside)) ?_)
     rintro _ rfl
     refine VO.ma rfl rfl rfl rfl ?_
     refine VO.nil ?_
     refine VC.cond rfl (fun hob => ?_) (fun hob => ?_)
     ·have ho := hob
      try simp only [qqT, qqF, qqN, qqM, qqL, qqE] at ho
      refine VC.sr ?_
      refine VO.ma rfl rfl rfl rfl ?_
      refine VO.nil ?_
      refine VC.ret ?_
      exact Exists.intro _ (And.intro (RetN.one Tryz.results242 (ResN.v rfl)) (by first | rw [needsF_at (by omega) (by omega) hn (needE_1 hk (.inr hs) ho) (by decide)] | rw [needsF_at (by omega) (by omega) hn (needE_1 hk (.inl (by omega)) ho) (by decide)]))
     ·have ho := hob
      try simp only [qqT, qqF, qqN, qqM, qqL, qqE] at ho
      refine VC.skip ?_
      refine VC.region ?_
      refine VO.val rfl rfl (OpV.add rfl rfl rfl (by unfold fits; omega)) ?_
      refine VO.mv rfl rfl rfl rfl ?_
      refine VO.nil ?_
      exact Exists.intro (⟨q + 1, by omega, lt_succ_cases hn (needE_0 hk (.inl (by omega)) ho)⟩) (And.intro (Le.mk hB [] ⟨rfl, rfl, rfl, rfl, rfl, rfl, trivial⟩ rfl rfl (Nat.le_refl _)) (by first | omega | (show _ < _; omega) | (simp only []; omega)))
  ·have aH2 := aH2b
   try simp only [qqT, qqF, qqN, qqM, qqL, qqE] at aH2
   refine VC.exit ?_
   refine VC.sr ?_
   refine VO.ma rfl rfl rfl rfl ?_
   refine VO.nil ?_
   refine VC.ret ?_
   exact Exists.intro _ (And.intro (RetN.one Tryz.results242 (ResN.v rfl)) (by rw [needsF_ok (by omega) (fun j hj => hn j (by omega))]))
set_option maxRecDepth 100000 in
theorem line_CheckNeeds {l : List NeedS} (hl : l.length ≤ 1000000000) (hb : ∀ i, (l.getD i default).key.size ≤ 1000000000) :
  SpecN Tryz.prog 169 [avL l] (fun y => y = avI (needsF l 1 1000)) := by
 refine SpecN.of_VCN Tryz.func169 rfl Tryz.ntmps169 (Nle rfl) fun w A hB => ?_
 have hnew : True := trivial
 refine VC.sr ?_
 refine VO.ma rfl rfl rfl rfl ?_
 refine VO.nil ?_
 refine VC.sr ?_
 refine VO.mv rfl rfl rfl rfl ?_
 refine VO.op rfl (OpE.call rfl hB rfl Tryz.call242 rfl (SpecN.spec (line_NeedsFault hl hb)) ?_)
 rintro _ rfl
 refine VO.ma rfl rfl rfl rfl ?_
 refine VO.nil ?_
 refine VC.ret ?_
 exact Exists.intro _ (And.intro (RetN.one Tryz.results169 (ResN.v rfl)) (rfl))
set_option maxRecDepth 100000 in
theorem slices_IndexFunc_mach {xs : List Mach} {F : FuncId} {cs : List AV} {p : Mach → Bool} (hl : xs.length ≤ 1000000000) (hcall : ∀ us w, (callFunc F us).run Tryz.prog w = .ok (.enter F us) w) (hF : ∀ x, Spec Tryz.prog F ([avT x] ++ cs) (fun y => y = avB (p x))) :
  SpecN Tryz.prog 175 [avL xs, .fn F cs] (fun y => y = avI (fidx p xs)) := by
 refine SpecN.of_VCN Tryz.func175 rfl Tryz.ntmps175 (Nle rfl) fun w A hB => ?_
 have hnew : True := trivial
 refine VC.sr ?_
 refine VO.ma rfl rfl rfl rfl ?_
 refine VO.nil ?_
 refine VC.seq ?_
 refine VC.sr ?_
 refine VO.mv rfl rfl rfl rfl ?_
 refine VO.val rfl rfl (OpV.len_im rfl Tryz.underlying26 rfl) ?_
 refine VO.mv rfl rfl rfl rfl ?_
 refine VO.nil ?_
 refine VC.block ?_
 refine VC.loopK [] trivial ({q : Nat // q ≤ xs.length ∧ ∀ j, j < q → p (xs.getD j default) = false}) (fun (iZ : {q : Nat // q ≤ xs.length ∧ ∀ j, j < q → p (xs.getD j default) = false}) => match iZ with | ⟨q, hq, hn⟩ => [(0, avL xs), (1, .fn F cs), (6, avL xs), (7, avI xs.length), (8, avI (q : Int))]) (fun (iZ : {q : Nat // q ≤ xs.length ∧ ∀ j, j < q → p (xs.getD j default) = false}) => match iZ with | ⟨q, hq, hn⟩ => []) (fun (iZ : {q : Nat // q ≤ xs.length ∧ ∀ j, j < q → p (xs.getD j default) = false}) => match iZ with | ⟨q, hq, hn⟩ => 0) (fun (iZ : {q : Nat // q ≤ xs.length ∧ ∀ j, j < q → p (xs.getD j default) = false}) => match iZ with | ⟨q, hq, hn⟩ => xs.length - q) ⟨0, Nat.zero_le _, fun j hj => absurd hj (Nat.not_lt_zero j)⟩ (Le.mk hB [] ⟨rfl, rfl, rfl, rfl, rfl, trivial⟩ rfl rfl (Nat.le_refl _)) ?_
 rintro ⟨q, hq, hn⟩
 show VC _ _ _ _ ⟨[(0, avL xs), (1, .fn F cs), (6, avL xs), (7, avI xs.length), (8, avI (q : Int))] ++ [], [], 0⟩
 refine VC.sr ?_
 refine VO.val rfl rfl (OpV.lss rfl rfl rfl) ?_
 refine VO.nil ?_
 refine VC.seq ?_
 refine VC.cond rfl (fun aH1b => ?_) (fun aH1b => ?_)
 ·have aH1 := aH1b
  try simp only [qqT, qqF, qqN, qqM, qqL, qqE] at aH1
  refine VC.skip ?_
  refine VC.seq ?_
  refine VC.block ?_
  refine VC.sr ?_
  refine VO.mv rfl rfl rfl rfl ?_
  refine VO.ma rfl rfl rfl rfl ?_
  refine VO.nil ?_
  refine VC.sr ?_
  refine VO.mv rfl rfl rfl rfl ?_
  refine VO.mv rfl rfl rfl rfl ?_
  refine VO.mv rfl rfl rfl rfl ?_
  refine VO.val rfl rfl (OpV.indexAddr_E rfl Tryz.underlying26 Tryz.sizeOf106 rfl rfl rfl (by omega)) ?_
  refine VO.val rfl rfl (OpV.loadK_at rfl hB OutW.no Tryz.isAgg106 Tryz.sizeOf106 rfl rfl) ?_
  refine VO.op rfl (OpE.callF rfl hB rfl hcall rfl rfl (hF _) ?_)
  rintro _ rfl
  refine VO.nil ?_
  refine VC.cond rfl (fun aH2b => ?_) (fun aH2b => ?_)
  ·have aH2 := aH2b
   try simp only [qqT, qqF, qqN, qqM, qqL, qqE] at aH2
   refine VC.sr ?_
   refine VO.mv rfl rfl rfl rfl ?_
   refine VO.ma rfl rfl rfl rfl ?_
   refine VO.nil ?_
   refine VC.ret ?_
   exact Exists.intro _ (And.intro (RetN.one Tryz.results175 (ResN.v rfl)) (by first | (rw [fidx_found (d := default) (q := q) (by omega) hn (by assumption)]) | (rw [fidx_none (d := default) (fun j hj => hn j (by omega))])))
  ·have aH2 := aH2b
   try simp only [qqT, qqF, qqN, qqM, qqL, qqE] at aH2
   refine VC.skip ?_
   refine VC.region ?_
   refine VO.val rfl rfl (OpV.add rfl rfl rfl (by unfold fits; omega)) ?_
   refine VO.mv rfl rfl rfl rfl ?_
   refine VO.nil ?_
   exact Exists.intro (⟨q + 1, by omega, lt_succ_cases hn (by assumption)⟩) (And.intro (Le.mk hB [] ⟨rfl, rfl, rfl, rfl, rfl, trivial⟩ rfl rfl (Nat.le_refl _)) (by first | omega | (show _ < _; omega) | (simp only []; omega)))
 ·have aH1 := aH1b
  try simp only [qqT, qqF, qqN, qqM, qqL, qqE] at aH1
  refine VC.exit ?_
  refine VC.sr ?_
  refine VO.ma rfl rfl rfl rfl ?_
  refine VO.nil ?_
  refine VC.ret ?_
  exact Exists.intro _ (And.intro (RetN.one Tryz.results175 (ResN.v rfl)) (by first | (rw [fidx_found (d := default) (q := q) (by omega) hn (by assumption)]) | (rw [fidx_none (d := default) (fun j hj => hn j (by omega))])))
set_option maxRecDepth 100000 in
theorem slices_ContainsFunc_mach {xs : List Mach} {F : FuncId} {cs : List AV} {p : Mach → Bool} (hl : xs.length ≤ 1000000000) (hcall : ∀ us w, (callFunc F us).run Tryz.prog w = .ok (.enter F us) w) (hF : ∀ x, Spec Tryz.prog F ([avT x] ++ cs) (fun y => y = avB (p x))) :
  SpecN Tryz.prog 80 [avL xs, .fn F cs] (fun y => y = avB (xs.any p)) := by
 refine SpecN.of_VCN Tryz.func80 rfl Tryz.ntmps80 (Nle rfl) fun w A hB => ?_
 have hnew : True := trivial
 refine VC.sr ?_
 refine VO.ma rfl rfl rfl rfl ?_
 refine VO.nil ?_
 refine VC.sr ?_
 refine VO.mv rfl rfl rfl rfl ?_
 refine VO.mv rfl rfl rfl rfl ?_
 refine VO.op rfl (OpE.call rfl hB rfl Tryz.call175 rfl (SpecN.spec (slices_IndexFunc_mach hl hcall hF)) ?_)
 rintro _ rfl
 refine VO.val rfl rfl (OpV.geq rfl rfl rfl) ?_
 refine VO.ma rfl rfl rfl rfl ?_
 refine VO.nil ?_
 refine VC.ret ?_
 exact Exists.intro _ (And.intro (RetN.one Tryz.results80 (ResN.v rfl)) (by rw [← fidx_any]))
set_option maxRecDepth 100000 in
theorem line_CheckMachines1 {x o : Mach}  :
  SpecN Tryz.prog 240 [avT o, .at_ 5 (Sxc.cell x)] (fun y => y = avB (sEq o.key x.key)) := by
 refine SpecN.of_VCN Tryz.func240 rfl Tryz.ntmps240 (Nle rfl) fun w A hB => ?_
 have hnew : True := trivial
 refine VC.sr ?_
 refine VO.op rfl (OpE.box rfl hB rfl rfl rfl ?_)
 intro g2
 refine VO.ma rfl rfl rfl rfl ?_
 refine VO.nil ?_
 refine VC.sr ?_
 refine VO.val rfl rfl (OpV.fieldAddrO 0 rfl Tryz.underlying106 rfl rfl Tryz.sizeOf9 rfl) ?_
 refine VO.val rfl rfl (OpV.load_own (i := 0) rfl hB Tryz.isAgg9 rfl rfl rfl (fun h => h)) ?_
 refine VO.val rfl rfl (OpV.fieldAddr_atO 0 rfl Tryz.underlying106 rfl rfl Tryz.sizeOf9 rfl rfl) ?_
 refine VO.val rfl rfl (OpV.load_at rfl hB OutW.no Tryz.isAgg9 rfl rfl) ?_
 refine VO.val rfl rfl (OpV.seql rfl rfl rfl) ?_
 refine VO.ma rfl rfl rfl rfl ?_
 refine VO.nil ?_
 refine VC.ret ?_
 exact Exists.intro _ (And.intro (RetN.one Tryz.results240 (ResN.v rfl)) (rfl))
set_option maxRecDepth 100000 in
theorem rf_MachinesFault1 {x o : Mach}  :
  SpecN Tryz.prog 83 [avT o, .at_ 5 (Sxc.cell x)] (fun y => y = avB (sEq o.key x.key)) := by
 refine SpecN.of_VCN Tryz.func83 rfl Tryz.ntmps83 (Nle rfl) fun w A hB => ?_
 have hnew : True := trivial
 refine VC.sr ?_
 refine VO.op rfl (OpE.box rfl hB rfl rfl rfl ?_)
 intro g2
 refine VO.ma rfl rfl rfl rfl ?_
 refine VO.nil ?_
 refine VC.sr ?_
 refine VO.val rfl rfl (OpV.fieldAddrO 0 rfl Tryz.underlying106 rfl rfl Tryz.sizeOf9 rfl) ?_
 refine VO.val rfl rfl (OpV.load_own (i := 0) rfl hB Tryz.isAgg9 rfl rfl rfl (fun h => h)) ?_
 refine VO.val rfl rfl (OpV.fieldAddr_atO 0 rfl Tryz.underlying106 rfl rfl Tryz.sizeOf9 rfl rfl) ?_
 refine VO.val rfl rfl (OpV.load_at rfl hB OutW.no Tryz.isAgg9 rfl rfl) ?_
 refine VO.val rfl rfl (OpV.seql rfl rfl rfl) ?_
 refine VO.ma rfl rfl rfl rfl ?_
 refine VO.nil ?_
 refine VC.ret ?_
 exact Exists.intro _ (And.intro (RetN.one Tryz.results83 (ResN.v rfl)) (rfl))
set_option maxRecDepth 100000 in
theorem line_CheckMachines {ms : List Mach} (hl : ms.length ≤ 1000000000) (hb : ∀ i, (ms.getD i default).key.size ≤ 1000000000) (hc : ∀ i, (ms.getD i default).can.length ≤ 1000000000) (hcb : ∀ i j, ((ms.getD i default).can.getD j ByteArray.empty).size ≤ 1000000000) :
  SpecN Tryz.prog 168 [avL ms] (fun y => y = avI (machF ms)) := by
 refine SpecN.of_VCN Tryz.func168 rfl Tryz.ntmps168 (Nle rfl) fun w A hB => ?_
 have hnew : True := trivial
 refine VC.sr ?_
 refine VO.ma rfl rfl rfl rfl ?_
 refine VO.nil ?_
 refine VC.seq ?_
 refine VC.sr ?_
 refine VO.mv rfl rfl rfl rfl ?_
 refine VO.val rfl rfl (OpV.len_im rfl Tryz.underlying26 rfl) ?_
 refine VO.val rfl rfl (OpV.eql rfl rfl rfl) ?_
 refine VO.nil ?_
 refine VC.cond rfl (fun aH1b => ?_) (fun aH1b => ?_)
 ·have aH1 := aH1b
  try simp only [qqT, qqF, qqN, qqM, qqL, qqE] at aH1
  refine VC.sr ?_
  refine VO.ma rfl rfl rfl rfl ?_
  refine VO.nil ?_
  refine VC.ret ?_
  exact Exists.intro _ (And.intro (RetN.one Tryz.results168 (ResN.v rfl)) (by rw [machF_none (by omega)]))
 ·have aH1 := aH1b
  try simp only [qqT, qqF, qqN, qqM, qqL, qqE] at aH1
  refine VC.skip ?_
  refine VC.seq ?_
  refine VC.sr ?_
  refine VO.mv rfl rfl rfl rfl ?_
  refine VO.val rfl rfl (OpV.len_im rfl Tryz.underlying26 rfl) ?_
  refine VO.val rfl rfl (OpV.gtr rfl rfl rfl) ?_
  refine VO.nil ?_
  refine VC.cond rfl (fun aH2b => ?_) (fun aH2b => ?_)
  ·have aH2 := aH2b
   try simp only [qqT, qqF, qqN, qqM, qqL, qqE] at aH2
   refine VC.sr ?_
   refine VO.ma rfl rfl rfl rfl ?_
   refine VO.nil ?_
   refine VC.ret ?_
   exact Exists.intro _ (And.intro (RetN.one Tryz.results168 (ResN.v rfl)) (by rw [machF_big (by omega)]))
  ·have aH2 := aH2b
   try simp only [qqT, qqF, qqN, qqM, qqL, qqE] at aH2
   refine VC.skip ?_
   refine VC.seq ?_
   refine VC.sr ?_
   refine VO.mv rfl rfl rfl rfl ?_
   refine VO.val rfl rfl (OpV.len_im rfl Tryz.underlying26 rfl) ?_
   refine VO.mv rfl rfl rfl rfl ?_
   refine VO.nil ?_
   refine VC.block ?_
   refine VC.loopK [] trivial ({q : Nat // q ≤ ms.length ∧ ∀ j, j < q → machE ms j = 0}) (fun (iZ : {q : Nat // q ≤ ms.length ∧ ∀ j, j < q → machE ms j = 0}) => match iZ with | ⟨q, hq, hn⟩ => [(0, avL ms), (12, avL ms), (13, avI ms.length), (14, avI (q : Int))]) (fun (iZ : {q : Nat // q ≤ ms.length ∧ ∀ j, j < q → machE ms j = 0}) => match iZ with | ⟨q, hq, hn⟩ => []) (fun (iZ : {q : Nat // q ≤ ms.length ∧ ∀ j, j < q → machE ms j = 0}) => match iZ with | ⟨q, hq, hn⟩ => 0) (fun (iZ : {q : Nat // q ≤ ms.length ∧ ∀ j, j < q → machE ms j = 0}) => match iZ with | ⟨q, hq, hn⟩ => ms.length - q) ⟨0, Nat.zero_le _, fun j hj => absurd hj (Nat.not_lt_zero j)⟩ (Le.mk hB [] ⟨rfl, rfl, rfl, rfl, trivial⟩ rfl rfl (Nat.le_refl _)) ?_
   rintro ⟨q, hq, hn⟩
   show VC _ _ _ _ ⟨[(0, avL ms), (12, avL ms), (13, avI ms.length), (14, avI (q : Int))] ++ [], [], 0⟩
   refine VC.sr ?_
   refine VO.val rfl rfl (OpV.lss rfl rfl rfl) ?_
   refine VO.nil ?_
   refine VC.seq ?_
   refine VC.cond rfl (fun aH3b => ?_) (fun aH3b => ?_)
   ·have aH3 := aH3b
    try simp only [qqT, qqF, qqN, qqM, qqL, qqE] at aH3
    refine VC.skip ?_
    refine VC.seq ?_
    refine VC.block ?_
    refine VC.sr ?_
    refine VO.mv rfl rfl rfl rfl ?_
    refine VO.val rfl rfl (OpV.indexAddr_E rfl Tryz.underlying26 Tryz.sizeOf106 rfl rfl rfl (by omega)) ?_
    refine VO.val rfl rfl (OpV.loadK_at rfl hB OutW.no Tryz.isAgg106 Tryz.sizeOf106 rfl rfl) ?_
    refine VO.op rfl (OpE.alloc rfl hB rfl Tryz.zeroValue106 rfl ?_)
    intro g4
    refine VO.ma rfl rfl rfl rfl ?_
    refine VO.op rfl (OpE.store (i := 0) rfl hB rfl Tryz.sizeOf106 rfl rfl rfl rfl rfl rfl (Nle rfl) trivial ?_)
    refine VO.nil ?_
    refine VC.seq ?_
    refine VC.block ?_
    refine VC.sr ?_
    refine VO.val rfl rfl (OpV.fieldAddrO 0 rfl Tryz.underlying106 rfl rfl Tryz.sizeOf9 rfl) ?_
    refine VO.val rfl rfl (OpV.load_own (i := 0) rfl hB Tryz.isAgg9 rfl rfl rfl (fun h => h)) ?_
    refine VO.op rfl (OpE.call rfl hB rfl Tryz.call181 rfl (SpecN.spec (kit_IsKey (hb _))) ?_)
    rintro _ rfl
    refine VO.val rfl rfl (OpV.not rfl rfl) ?_
    refine VO.ma rfl rfl rfl rfl ?_
    refine VO.nil ?_
    refine VC.cond rfl (fun hkb => ?_) (fun hkb => ?_)
    ·have hk := hkb
     try simp only [qqT, qqF, qqN, qqM, qqL, qqE] at hk
     refine VC.sr ?_
     refine VO.ma rfl rfl rfl rfl ?_
     refine VO.nil ?_
     refine VC.ret ?_
     exact Exists.intro _ (And.intro (RetN.one Tryz.results168 (ResN.v rfl)) (by rw [machF_at (by omega) (by omega) (by omega) hn (machE_5 hk) (by decide)]))
    ·have hk := hkb
     try simp only [qqT, qqF, qqN, qqM, qqL, qqE] at hk
     refine VC.sr ?_
     refine VO.mv rfl rfl rfl rfl ?_
     refine VO.mv rfl rfl rfl rfl ?_
     refine VO.val rfl rfl (OpV.slice_L (h := q) rfl Tryz.underlying26 Tryz.sizeOf106 rfl rfl ⟨_, _, rfl, rfl⟩ (by omega) (by omega)) ?_
     refine VO.val rfl rfl (OpV.makeFunc1 rfl rfl) ?_
     refine VO.op rfl (OpE.callL rfl hB rfl Tryz.call80 (slices_ContainsFunc_mach (p := fun o => sEq o.key (ms.getD q default).key) (by rw [len_cut (by omega)]; omega) Tryz.call240 (fun x => line_CheckMachines1.spec)) (ArgsP.cons (ArgP.ev rfl) (ArgsP.cons (ArgP.fn1 (i := 0) (m := 5) (f := Sxc.cell (ms.getD q default)) rfl rfl (Nle rfl) (lt5 rfl rfl rfl rfl rfl)) (ArgsP.nil))) ?_)
     rintro _ rfl
     refine VO.ma rfl rfl rfl rfl ?_
     refine VO.nil ?_
     refine VC.cond rfl (fun h2b => ?_) (fun h2b => ?_)
     ·have h2 := h2b
      try simp only [qqT, qqF, qqN, qqM, qqL, qqE] at h2
      refine VC.sr ?_
      refine VO.ma rfl rfl rfl rfl ?_
      refine VO.nil ?_
      refine VC.ret ?_
      exact Exists.intro _ (And.intro (RetN.one Tryz.results168 (ResN.v rfl)) (by rw [machF_at (by omega) (by omega) (by omega) hn (machE_6 hk h2) (by decide)]))
     ·have h2 := h2b
      try simp only [qqT, qqF, qqN, qqM, qqL, qqE] at h2
      refine VC.sr ?_
      refine VO.val rfl rfl (OpV.fieldAddrO 1 rfl Tryz.underlying106 rfl rfl Tryz.sizeOf3 rfl) ?_
      refine VO.val rfl rfl (OpV.load_own (i := 0) rfl hB Tryz.isAgg3 rfl rfl rfl (fun h => h)) ?_
      refine VO.op rfl (OpE.call rfl hB rfl Tryz.call180 rfl (SpecN.spec (kit_Outside)) ?_)
      rintro _ rfl
      refine VO.mv rfl rfl rfl rfl ?_
      refine VO.opG rfl rfl rfl rfl (fun aK4b => ?_) (fun aK4b => ?_)
      ·replace aK4b : _ = false := aK4b
       have aK4 := aK4b
       try simp only [qqT, qqF, qqN, qqM, qqL, qqE] at aK4
       refine OpE.val (W := NoB) (OpV.fieldAddrO 2 rfl Tryz.underlying106 rfl rfl Tryz.sizeOf3 rfl) rfl ?_
       refine VO.opY rfl rfl rfl rfl aK4b ?_
       refine OpE.val (W := NoB) (OpV.load_own (i := 0) rfl hB Tryz.isAgg3 rfl rfl rfl (fun h => h)) rfl ?_
       refine VO.opY rfl rfl rfl rfl aK4b ?_
       refine OpE.call rfl hB rfl Tryz.call180 rfl (SpecN.spec (kit_Outside)) ?_
       rintro _ rfl
       refine VO.val rfl rfl (OpV.pickF rfl rfl rfl rfl aK4b) ?_
       refine VO.mv rfl rfl rfl rfl ?_
       refine VO.opG rfl rfl rfl rfl (fun aK5b => ?_) (fun aK5b => ?_)
       ·replace aK5b : _ = false := aK5b
        have aK5 := aK5b
        try simp only [qqT, qqF, qqN, qqM, qqL, qqE] at aK5
        refine OpE.val (W := NoB) (OpV.fieldAddrO 3 rfl Tryz.underlying106 rfl rfl Tryz.sizeOf3 rfl) rfl ?_
        refine VO.opY rfl rfl rfl rfl aK5b ?_
        refine OpE.val (W := NoB) (OpV.load_own (i := 0) rfl hB Tryz.isAgg3 rfl rfl rfl (fun h => h)) rfl ?_
        refine VO.opY rfl rfl rfl rfl aK5b ?_
        refine OpE.call rfl hB rfl Tryz.call180 rfl (SpecN.spec (kit_Outside)) ?_
        rintro _ rfl
        refine VO.val rfl rfl (OpV.pickF rfl rfl rfl rfl aK5b) ?_
        refine VO.ma rfl rfl rfl rfl ?_
        refine VO.nil ?_
        refine VC.cond rfl (fun h3b => ?_) (fun h3b => ?_)
        ·have h3 := h3b
         try simp only [qqT, qqF, qqN, qqM, qqL, qqE] at h3
         refine VC.sr ?_
         refine VO.ma rfl rfl rfl rfl ?_
         refine VO.nil ?_
         refine VC.ret ?_
         exact Exists.intro _ (And.intro (RetN.one Tryz.results168 (ResN.v rfl)) (by rw [machF_at (by omega) (by omega) (by omega) hn (machE_1 hk h2 (by first | exact or3a (by assumption) | exact or3b (by assumption) | exact or3c (by assumption))) (by decide)]))
        ·have h3 := h3b
         try simp only [qqT, qqF, qqN, qqM, qqL, qqE] at h3
         refine VC.skip ?_
         refine VC.sr ?_
         refine VO.val rfl rfl (OpV.fieldAddrO 4 rfl Tryz.underlying106 rfl rfl Tryz.sizeOf40 rfl) ?_
         refine VO.val rfl rfl (OpV.load_own (i := 0) rfl hB Tryz.isAgg40 rfl rfl rfl (fun h => h)) ?_
         refine VO.op rfl (OpE.call rfl hB rfl Tryz.call241 rfl (SpecN.spec (line_canFault (hc _) (hcb _))) ?_)
         rintro _ rfl
         refine VO.ma rfl rfl rfl rfl ?_
         refine VO.nil ?_
         refine VC.sr ?_
         refine VO.mv rfl rfl rfl rfl ?_
         refine VO.val rfl rfl (OpV.neq rfl rfl rfl) ?_
         refine VO.nil ?_
         refine VC.cond rfl (fun h4b => ?_) (fun h4b => ?_)
         ·have h4 := h4b
          try simp only [qqT, qqF, qqN, qqM, qqL, qqE] at h4
          refine VC.sr ?_
          refine VO.mv rfl rfl rfl rfl ?_
          refine VO.ma rfl rfl rfl rfl ?_
          refine VO.nil ?_
          refine VC.ret ?_
          exact Exists.intro _ (And.intro (RetN.one Tryz.results168 (ResN.v rfl)) (by rw [machF_at (by omega) (by omega) (by omega) hn (machE_x hk h2 (or3f (by assumption) (by assumption) (by assumption))) h4]))
         ·have h4 := h4b
          try simp only [qqT, qqF, qqN, qqM, qqL, qqE] at h4
          refine VC.skip ?_
          refine VC.region ?_
          refine VO.val rfl rfl (OpV.add rfl rfl rfl (by unfold fits; omega)) ?_
          refine VO.mv rfl rfl rfl rfl ?_
          refine VO.nil ?_
          exact Exists.intro (⟨q + 1, by omega, lt_succ_cases hn (by rw [machE_x hk h2 (or3f (by assumption) (by assumption) (by assumption))]; omega)⟩) (And.intro (Le.mk hB [] ⟨rfl, rfl, rfl, rfl, trivial⟩ rfl rfl (Nat.le_refl _)) (by first | omega | (show _ < _; omega) | (simp only []; omega)))
       ·replace aK5b : _ = true := aK5b
        have aK5 := aK5b
        try simp only [qqT, qqF, qqN, qqM, qqL, qqE] at aK5
        refine VO.opX rfl rfl rfl rfl aK5b ?_
        refine VO.opX rfl rfl rfl rfl aK5b ?_
        refine VO.val rfl rfl (OpV.pickT rfl rfl rfl rfl aK5b) ?_
        refine VO.ma rfl rfl rfl rfl ?_
        refine VO.nil ?_
        refine VC.condT rfl rfl ?_
        refine VC.sr ?_
        refine VO.ma rfl rfl rfl rfl ?_
        refine VO.nil ?_
        refine VC.ret ?_
        exact Exists.intro _ (And.intro (RetN.one Tryz.results168 (ResN.v rfl)) (by rw [machF_at (by omega) (by omega) (by omega) hn (machE_1 hk h2 (by first | exact or3a (by assumption) | exact or3b (by assumption) | exact or3c (by assumption))) (by decide)]))
      ·replace aK4b : _ = true := aK4b
       have aK4 := aK4b
       try simp only [qqT, qqF, qqN, qqM, qqL, qqE] at aK4
       refine VO.opX rfl rfl rfl rfl aK4b ?_
       refine VO.opX rfl rfl rfl rfl aK4b ?_
       refine VO.val rfl rfl (OpV.pickT rfl rfl rfl rfl aK4b) ?_
       refine VO.mv rfl rfl rfl rfl ?_
       refine VO.opX rfl rfl rfl rfl rfl ?_
       refine VO.opX rfl rfl rfl rfl rfl ?_
       refine VO.opX rfl rfl rfl rfl rfl ?_
       refine VO.val rfl rfl (OpV.pickT rfl rfl rfl rfl rfl) ?_
       refine VO.ma rfl rfl rfl rfl ?_
       refine VO.nil ?_
       refine VC.condT rfl rfl ?_
       refine VC.sr ?_
       refine VO.ma rfl rfl rfl rfl ?_
       refine VO.nil ?_
       refine VC.ret ?_
       exact Exists.intro _ (And.intro (RetN.one Tryz.results168 (ResN.v rfl)) (by rw [machF_at (by omega) (by omega) (by omega) hn (machE_1 hk h2 (by first | exact or3a (by assumption) | exact or3b (by assumption) | exact or3c (by assumption))) (by decide)]))
   ·have aH3 := aH3b
    try simp only [qqT, qqF, qqN, qqM, qqL, qqE] at aH3
    refine VC.exit ?_
    refine VC.sr ?_
    refine VO.ma rfl rfl rfl rfl ?_
    refine VO.nil ?_
    refine VC.ret ?_
    exact Exists.intro _ (And.intro (RetN.one Tryz.results168 (ResN.v rfl)) (by rw [machF_ok (by omega) (by omega) (fun j hj => hn j (by omega))]))
set_option maxRecDepth 100000 in
theorem rf_MachinesFault {ms : List Mach} (hl : ms.length ≤ 1000000000) (hb : ∀ i, (ms.getD i default).key.size ≤ 1000000000) (hc : ∀ i, (ms.getD i default).can.length ≤ 1000000000) (hcb : ∀ i j, ((ms.getD i default).can.getD j ByteArray.empty).size ≤ 1000000000) :
    SpecN Tryz.prog 17 [avL ms] (fun y => y = avI (machF ms)) := by
  refine SpecN.of_VCN Tryz.func17 rfl Tryz.ntmps17 (Nle rfl) fun w A hB => ?_
  have hnew : True := trivial
  refine VC.sr ?_
  refine VO.ma rfl rfl rfl rfl ?_
  refine VO.nil ?_
  refine VC.seq ?_
  refine VC.block ?_
  refine VC.sr ?_
  refine VO.mv rfl rfl rfl rfl ?_
  refine VO.val rfl rfl (OpV.len_im rfl Tryz.underlying26 rfl) ?_
  refine VO.val rfl rfl (OpV.eql rfl rfl rfl) ?_
  refine VO.ma rfl rfl rfl rfl ?_
  refine VO.nil ?_
  refine VC.cond rfl (fun aH1b => ?_) (fun aH1b => ?_)
  · have aH1 := aH1b
    try simp only [qqT, qqF, qqN, qqM, qqL, qqE] at aH1
    refine VC.sr ?_
    refine VO.ma rfl rfl rfl rfl ?_
    refine VO.nil ?_
    refine VC.ret ?_
    exact Exists.intro _ (And.intro (RetN.one Tryz.results17 (ResN.v rfl)) (by rw [machF_none (by omega)]))
  · have aH1 := aH1b
    try simp only [qqT, qqF, qqN, qqM, qqL, qqE] at aH1
    refine VC.sr ?_
    refine VO.mv rfl rfl rfl rfl ?_
    refine VO.val rfl rfl (OpV.len_im rfl Tryz.underlying26 rfl) ?_
    refine VO.val rfl rfl (OpV.gtr rfl rfl rfl) ?_
    refine VO.ma rfl rfl rfl rfl ?_
    refine VO.nil ?_
    refine VC.cond rfl (fun aH2b => ?_) (fun aH2b => ?_)
    · have aH2 := aH2b
      try simp only [qqT, qqF, qqN, qqM, qqL, qqE] at aH2
      refine VC.sr ?_
      refine VO.ma rfl rfl rfl rfl ?_
      refine VO.nil ?_
      refine VC.ret ?_
      exact Exists.intro _ (And.intro (RetN.one Tryz.results17 (ResN.v rfl)) (by rw [machF_big (by omega)]))
    · have aH2 := aH2b
      try simp only [qqT, qqF, qqN, qqM, qqL, qqE] at aH2
      refine VC.skip ?_
      refine VC.seq ?_
      refine VC.sr ?_
      refine VO.mv rfl rfl rfl rfl ?_
      refine VO.val rfl rfl (OpV.len_im rfl Tryz.underlying26 rfl) ?_
      refine VO.mv rfl rfl rfl rfl ?_
      refine VO.nil ?_
      refine VC.block ?_
      refine VC.loopK [] trivial ({q : Nat // q ≤ ms.length ∧ ∀ j, j < q → machE ms j = 0}) (fun (iZ : {q : Nat // q ≤ ms.length ∧ ∀ j, j < q → machE ms j = 0}) => match iZ with | ⟨q, hq, hn⟩ => [(0, avL ms), (16, avL ms), (17, avI ms.length), (18, avI (q : Int))]) (fun (iZ : {q : Nat // q ≤ ms.length ∧ ∀ j, j < q → machE ms j = 0}) => match iZ with | ⟨q, hq, hn⟩ => []) (fun (iZ : {q : Nat // q ≤ ms.length ∧ ∀ j, j < q → machE ms j = 0}) => match iZ with | ⟨q, hq, hn⟩ => 0) (fun (iZ : {q : Nat // q ≤ ms.length ∧ ∀ j, j < q → machE ms j = 0}) => match iZ with | ⟨q, hq, hn⟩ => ms.length - q) ⟨0, Nat.zero_le _, fun j hj => absurd hj (Nat.not_lt_zero j)⟩ (Le.mk hB [] ⟨rfl, rfl, rfl, rfl, trivial⟩ rfl rfl (Nat.le_refl _)) ?_
      rintro ⟨q, hq, hn⟩
      show VC _ _ _ _ ⟨[(0, avL ms), (16, avL ms), (17, avI ms.length), (18, avI (q : Int))] ++ [], [], 0⟩
      refine VC.sr ?_
      refine VO.val rfl rfl (OpV.lss rfl rfl rfl) ?_
      refine VO.nil ?_
      refine VC.seq ?_
      refine VC.cond rfl (fun aH3b => ?_) (fun aH3b => ?_)
      · have aH3 := aH3b
        try simp only [qqT, qqF, qqN, qqM, qqL, qqE] at aH3
        refine VC.skip ?_
        refine VC.seq ?_
        refine VC.block ?_
        refine VC.sr ?_
        refine VO.mv rfl rfl rfl rfl ?_
        refine VO.val rfl rfl (OpV.indexAddr_E rfl Tryz.underlying26 Tryz.sizeOf106 rfl rfl rfl (by omega)) ?_
        refine VO.val rfl rfl (OpV.loadK_at rfl hB OutW.no Tryz.isAgg106 Tryz.sizeOf106 rfl rfl) ?_
        refine VO.op rfl (OpE.alloc rfl hB rfl Tryz.zeroValue106 rfl ?_)
        intro g4
        refine VO.ma rfl rfl rfl rfl ?_
        refine VO.op rfl (OpE.store (i := 0) rfl hB rfl Tryz.sizeOf106 rfl rfl rfl rfl rfl rfl (Nle rfl) trivial ?_)
        refine VO.nil ?_
        refine VC.seq ?_
        refine VC.block ?_
        refine VC.sr ?_
        refine VO.val rfl rfl (OpV.fieldAddrO 0 rfl Tryz.underlying106 rfl rfl Tryz.sizeOf9 rfl) ?_
        refine VO.val rfl rfl (OpV.load_own (i := 0) rfl hB Tryz.isAgg9 rfl rfl rfl (fun h => h)) ?_
        refine VO.op rfl (OpE.call rfl hB rfl Tryz.call82 rfl (SpecN.spec (rf_Key (hb _))) ?_)
        rintro _ rfl
        refine VO.val rfl rfl (OpV.not rfl rfl) ?_
        refine VO.ma rfl rfl rfl rfl ?_
        refine VO.nil ?_
        refine VC.cond rfl (fun hkb => ?_) (fun hkb => ?_)
        · have hk := hkb
          try simp only [qqT, qqF, qqN, qqM, qqL, qqE] at hk
          refine VC.sr ?_
          refine VO.ma rfl rfl rfl rfl ?_
          refine VO.nil ?_
          refine VC.ret ?_
          exact Exists.intro _ (And.intro (RetN.one Tryz.results17 (ResN.v rfl)) (by rw [machF_at (by omega) (by omega) (by omega) hn (machE_5 hk) (by decide)]))
        · have hk := hkb
          try simp only [qqT, qqF, qqN, qqM, qqL, qqE] at hk
          refine VC.sr ?_
          refine VO.mv rfl rfl rfl rfl ?_
          refine VO.mv rfl rfl rfl rfl ?_
          refine VO.val rfl rfl (OpV.slice_L (h := q) rfl Tryz.underlying26 Tryz.sizeOf106 rfl rfl ⟨_, _, rfl, rfl⟩ (by omega) (by omega)) ?_
          refine VO.val rfl rfl (OpV.makeFunc1 rfl rfl) ?_
          refine VO.op rfl (OpE.callL rfl hB rfl Tryz.call80 (slices_ContainsFunc_mach (p := fun o => sEq o.key (ms.getD q default).key) (by rw [len_cut (by omega)]; omega) Tryz.call83 (fun x => rf_MachinesFault1.spec)) (ArgsP.cons (ArgP.ev rfl) (ArgsP.cons (ArgP.fn1 (i := 0) (m := 5) (f := Sxc.cell (ms.getD q default)) rfl rfl (Nle rfl) (lt5 rfl rfl rfl rfl rfl)) (ArgsP.nil))) ?_)
          rintro _ rfl
          refine VO.ma rfl rfl rfl rfl ?_
          refine VO.nil ?_
          refine VC.cond rfl (fun h2b => ?_) (fun h2b => ?_)
          · have h2 := h2b
            try simp only [qqT, qqF, qqN, qqM, qqL, qqE] at h2
            refine VC.sr ?_
            refine VO.ma rfl rfl rfl rfl ?_
            refine VO.nil ?_
            refine VC.ret ?_
            exact Exists.intro _ (And.intro (RetN.one Tryz.results17 (ResN.v rfl)) (by rw [machF_at (by omega) (by omega) (by omega) hn (machE_6 hk h2) (by decide)]))
          · have h2 := h2b
            try simp only [qqT, qqF, qqN, qqM, qqL, qqE] at h2
            refine VC.sr ?_
            refine VO.val rfl rfl (OpV.fieldAddrO 1 rfl Tryz.underlying106 rfl rfl Tryz.sizeOf3 rfl) ?_
            refine VO.val rfl rfl (OpV.load_own (i := 0) rfl hB Tryz.isAgg3 rfl rfl rfl (fun h => h)) ?_
            refine VO.op rfl (OpE.call rfl hB rfl Tryz.call84 rfl (SpecN.spec (rf_in)) ?_)
            rintro _ rfl
            refine VO.val rfl rfl (OpV.not rfl rfl) ?_
            refine VO.mv rfl rfl rfl rfl ?_
            refine VO.opG rfl rfl rfl rfl (fun aK4b => ?_) (fun aK4b => ?_)
            · replace aK4b : _ = false := aK4b
              have aK4 := aK4b
              try simp only [qqT, qqF, qqN, qqM, qqL, qqE] at aK4
              refine OpE.val (W := NoB) (OpV.fieldAddrO 2 rfl Tryz.underlying106 rfl rfl Tryz.sizeOf3 rfl) rfl ?_
              refine VO.opY rfl rfl rfl rfl aK4b ?_
              refine OpE.val (W := NoB) (OpV.load_own (i := 0) rfl hB Tryz.isAgg3 rfl rfl rfl (fun h => h)) rfl ?_
              refine VO.opY rfl rfl rfl rfl aK4b ?_
              refine OpE.call rfl hB rfl Tryz.call84 rfl (SpecN.spec (rf_in)) ?_
              rintro _ rfl
              refine VO.opY rfl rfl rfl rfl aK4b ?_
              refine OpE.val (W := NoB) (OpV.not rfl rfl) rfl ?_
              refine VO.val rfl rfl (OpV.pickF rfl rfl rfl rfl aK4b) ?_
              refine VO.mv rfl rfl rfl rfl ?_
              refine VO.opG rfl rfl rfl rfl (fun aK5b => ?_) (fun aK5b => ?_)
              · replace aK5b : _ = false := aK5b
                have aK5 := aK5b
                try simp only [qqT, qqF, qqN, qqM, qqL, qqE] at aK5
                refine OpE.val (W := NoB) (OpV.fieldAddrO 3 rfl Tryz.underlying106 rfl rfl Tryz.sizeOf3 rfl) rfl ?_
                refine VO.opY rfl rfl rfl rfl aK5b ?_
                refine OpE.val (W := NoB) (OpV.load_own (i := 0) rfl hB Tryz.isAgg3 rfl rfl rfl (fun h => h)) rfl ?_
                refine VO.opY rfl rfl rfl rfl aK5b ?_
                refine OpE.call rfl hB rfl Tryz.call84 rfl (SpecN.spec (rf_in)) ?_
                rintro _ rfl
                refine VO.opY rfl rfl rfl rfl aK5b ?_
                refine OpE.val (W := NoB) (OpV.not rfl rfl) rfl ?_
                refine VO.val rfl rfl (OpV.pickF rfl rfl rfl rfl aK5b) ?_
                refine VO.ma rfl rfl rfl rfl ?_
                refine VO.nil ?_
                refine VC.cond rfl (fun aH6b => ?_) (fun aH6b => ?_)
                · have aH6 := aH6b
                  try simp only [qqT, qqF, qqN, qqM, qqL, qqE] at aH6
                  refine VC.sr ?_
                  refine VO.ma rfl rfl rfl rfl ?_
                  refine VO.nil ?_
                  refine VC.ret ?_
                  exact Exists.intro _ (And.intro (RetN.one Tryz.results17 (ResN.v rfl)) (by rw [machF_at (by omega) (by omega) (by omega) hn (machE_1 hk h2 (by first | exact o3a (by assumption) | exact o3b (by assumption) | exact o3c (by assumption))) (by decide)]))
                · have aH6 := aH6b
                  try simp only [qqT, qqF, qqN, qqM, qqL, qqE] at aH6
                  refine VC.sr ?_
                  refine VO.val rfl rfl (OpV.fieldAddrO 4 rfl Tryz.underlying106 rfl rfl Tryz.sizeOf40 rfl) ?_
                  refine VO.val rfl rfl (OpV.load_own (i := 0) rfl hB Tryz.isAgg40 rfl rfl rfl (fun h => h)) ?_
                  refine VO.val rfl rfl (OpV.len_im rfl Tryz.underlying40 rfl) ?_
                  refine VO.val rfl rfl (OpV.gtr rfl rfl rfl) ?_
                  refine VO.ma rfl rfl rfl rfl ?_
                  refine VO.nil ?_
                  refine VC.cond rfl (fun h4b => ?_) (fun h4b => ?_)
                  · have h4 := h4b
                    try simp only [qqT, qqF, qqN, qqM, qqL, qqE] at h4
                    refine VC.sr ?_
                    refine VO.ma rfl rfl rfl rfl ?_
                    refine VO.nil ?_
                    refine VC.ret ?_
                    exact Exists.intro _ (And.intro (RetN.one Tryz.results17 (ResN.v rfl)) (by rw [machF_at (by omega) (by omega) (by omega) hn ((machE_x hk h2 (o3f (by assumption) (by assumption) (by assumption))).trans (canF_big (by omega))) (by decide)]))
                  · have h4 := h4b
                    try simp only [qqT, qqF, qqN, qqM, qqL, qqE] at h4
                    refine VC.skip ?_
                    refine VC.sr ?_
                    refine VO.ma rfl rfl rfl rfl ?_
                    refine VO.nil ?_
                    refine VC.sr ?_
                    refine VO.val rfl rfl (OpV.fieldAddrO 4 rfl Tryz.underlying106 rfl rfl Tryz.sizeOf40 rfl) ?_
                    refine VO.val rfl rfl (OpV.load_own (i := 0) rfl hB Tryz.isAgg40 rfl rfl rfl (fun h => h)) ?_
                    refine VO.val rfl rfl (OpV.len_im rfl Tryz.underlying40 rfl) ?_
                    refine VO.mv rfl rfl rfl rfl ?_
                    refine VO.nil ?_
                    refine VC.block ?_
                    have hx := o3f (n := (ms.getD q default).each) (m := (ms.getD q default).fixed) (k := (ms.getD q default).feeders) (by assumption) (by assumption) (by assumption)
                    refine VC.loopK [] trivial ({r : Nat // r ≤ (ms.getD q default).can.length ∧ ∀ j, j < r → canE (ms.getD q default).can j = 0}) (fun (iZ : {r : Nat // r ≤ (ms.getD q default).can.length ∧ ∀ j, j < r → canE (ms.getD q default).can j = 0}) => match iZ with | ⟨r, hrl, hr⟩ => [(0, avL ms), (16, avL ms), (17, avI ms.length), (18, avI (q : Int)), (57, avStrs (ms.getD q default).can), (58, avI (ms.getD q default).can.length), (59, avI (r : Int)), (5, avS (lastS (ms.getD q default).can r))]) (fun (iZ : {r : Nat // r ≤ (ms.getD q default).can.length ∧ ∀ j, j < r → canE (ms.getD q default).can j = 0}) => match iZ with | ⟨r, hrl, hr⟩ => []) (fun (iZ : {r : Nat // r ≤ (ms.getD q default).can.length ∧ ∀ j, j < r → canE (ms.getD q default).can j = 0}) => match iZ with | ⟨r, hrl, hr⟩ => 0) (fun (iZ : {r : Nat // r ≤ (ms.getD q default).can.length ∧ ∀ j, j < r → canE (ms.getD q default).can j = 0}) => match iZ with | ⟨r, hrl, hr⟩ => (ms.getD q default).can.length - r) ⟨0, Nat.zero_le _, fun j hj => absurd hj (Nat.not_lt_zero j)⟩ (Le.mk hB [] ⟨rfl, rfl, rfl, rfl, rfl, rfl, rfl, rfl, trivial⟩ rfl rfl (Nat.le_refl _)) ?_
                    rintro ⟨r, hrl, hr⟩
                    show VC _ _ _ _ ⟨[(0, avL ms), (16, avL ms), (17, avI ms.length), (18, avI (q : Int)), (57, avStrs (ms.getD q default).can), (58, avI (ms.getD q default).can.length), (59, avI (r : Int)), (5, avS (lastS (ms.getD q default).can r))] ++ [], [], 0⟩
                    refine VC.sr ?_
                    refine VO.val rfl rfl (OpV.lss rfl rfl rfl) ?_
                    refine VO.nil ?_
                    refine VC.seq ?_
                    refine VC.cond rfl (fun aH7b => ?_) (fun aH7b => ?_)
                    · have aH7 := aH7b
                      try simp only [qqT, qqF, qqN, qqM, qqL, qqE] at aH7
                      refine VC.skip ?_
                      refine VC.seq ?_
                      refine VC.block ?_
                      refine VC.sr ?_
                      refine VO.val rfl rfl (OpV.indexAddr_1 rfl Tryz.underlying40 Tryz.sizeOf9 rfl rfl rfl (by omega)) ?_
                      refine VO.val rfl rfl (OpV.load_at rfl hB OutW.no Tryz.isAgg9 rfl rfl) ?_
                      refine VO.ma rfl rfl rfl rfl ?_
                      refine VO.nil ?_
                      refine VC.seq ?_
                      refine VC.block ?_
                      refine VC.sr ?_
                      refine VO.mv rfl rfl rfl rfl ?_
                      refine VO.op rfl (OpE.call rfl hB rfl Tryz.call82 rfl (SpecN.spec (rf_Key (hcb _ _))) ?_)
                      rintro _ rfl
                      refine VO.val rfl rfl (OpV.not rfl rfl) ?_
                      refine VO.ma rfl rfl rfl rfl ?_
                      refine VO.nil ?_
                      refine VC.cond rfl (fun k1b => ?_) (fun k1b => ?_)
                      · have k1 := k1b
                        try simp only [qqT, qqF, qqN, qqM, qqL, qqE] at k1
                        refine VC.sr ?_
                        refine VO.ma rfl rfl rfl rfl ?_
                        refine VO.nil ?_
                        refine VC.ret ?_
                        exact Exists.intro _ (And.intro (RetN.one Tryz.results17 (ResN.v rfl)) (by rw [machF_at (by omega) (by omega) (by omega) hn ((machE_x hk h2 hx).trans ((canF_at (by omega) (by omega) hr (by rw [canE_5 k1]; decide)).trans (canE_5 k1))) (by decide)]))
                      · have k1 := k1b
                        try simp only [qqT, qqF, qqN, qqM, qqL, qqE] at k1
                        refine VC.sr ?_
                        refine VO.mv rfl rfl rfl rfl ?_
                        refine VO.mv rfl rfl rfl rfl ?_
                        refine VO.val rfl rfl (OpV.sleq rfl rfl rfl) ?_
                        refine VO.ma rfl rfl rfl rfl ?_
                        refine VO.nil ?_
                        refine VC.cond rfl (fun k2b => ?_) (fun k2b => ?_)
                        · have k2 := k2b
                          try simp only [qqT, qqF, qqN, qqM, qqL, qqE] at k2
                          refine VC.sr ?_
                          refine VO.ma rfl rfl rfl rfl ?_
                          refine VO.nil ?_
                          refine VC.ret ?_
                          exact Exists.intro _ (And.intro (RetN.one Tryz.results17 (ResN.v rfl)) (by rw [machF_at (by omega) (by omega) (by omega) hn ((machE_x hk h2 hx).trans ((canF_at (by omega) (by omega) hr (by rw [canE_7' k1 k2]; decide)).trans (canE_7' k1 k2))) (by decide)]))
                        · have k2 := k2b
                          try simp only [qqT, qqF, qqN, qqM, qqL, qqE] at k2
                          refine VC.skip ?_
                          refine VC.region ?_
                          refine VO.mv rfl rfl rfl rfl ?_
                          refine VO.ma rfl rfl rfl rfl ?_
                          refine VO.nil ?_
                          refine VC.region ?_
                          refine VO.val rfl rfl (OpV.add rfl rfl rfl (by unfold fits; omega)) ?_
                          refine VO.mv rfl rfl rfl rfl ?_
                          refine VO.nil ?_
                          exact Exists.intro (⟨r + 1, by omega, lt_succ_cases hr (canE_0' k1 k2)⟩) (And.intro (Le.mk hB [] ⟨rfl, rfl, rfl, rfl, rfl, rfl, rfl, (by rw [lastS_succ]; rfl), trivial⟩ rfl rfl (Nat.le_refl _)) (by first | omega | (show _ < _; omega) | (simp only []; omega)))
                    · have aH7 := aH7b
                      try simp only [qqT, qqF, qqN, qqM, qqL, qqE] at aH7
                      refine VC.exit ?_
                      refine VC.region ?_
                      refine VO.val rfl rfl (OpV.add rfl rfl rfl (by unfold fits; omega)) ?_
                      refine VO.mv rfl rfl rfl rfl ?_
                      refine VO.nil ?_
                      exact Exists.intro (⟨q + 1, by omega, lt_succ_cases hn (by rw [machE_x hk h2 hx]; exact canF_ok (by omega) (fun j hj => hr j (by omega)))⟩) (And.intro (Le.mk hB [] ⟨rfl, rfl, rfl, rfl, trivial⟩ rfl rfl (Nat.le_refl _)) (by first | omega | (show _ < _; omega) | (simp only []; omega)))
              · replace aK5b : _ = true := aK5b
                have aK5 := aK5b
                try simp only [qqT, qqF, qqN, qqM, qqL, qqE] at aK5
                refine VO.opX rfl rfl rfl rfl aK5b ?_
                refine VO.opX rfl rfl rfl rfl aK5b ?_
                refine VO.opX rfl rfl rfl rfl aK5b ?_
                refine VO.val rfl rfl (OpV.pickT rfl rfl rfl rfl aK5b) ?_
                refine VO.ma rfl rfl rfl rfl ?_
                refine VO.nil ?_
                refine VC.condT rfl rfl ?_
                refine VC.sr ?_
                refine VO.ma rfl rfl rfl rfl ?_
                refine VO.nil ?_
                refine VC.ret ?_
                exact Exists.intro _ (And.intro (RetN.one Tryz.results17 (ResN.v rfl)) (by rw [machF_at (by omega) (by omega) (by omega) hn (machE_1 hk h2 (by first | exact o3a (by assumption) | exact o3b (by assumption) | exact o3c (by assumption))) (by decide)]))
            · replace aK4b : _ = true := aK4b
              have aK4 := aK4b
              try simp only [qqT, qqF, qqN, qqM, qqL, qqE] at aK4
              refine VO.opX rfl rfl rfl rfl aK4b ?_
              refine VO.opX rfl rfl rfl rfl aK4b ?_
              refine VO.opX rfl rfl rfl rfl aK4b ?_
              refine VO.val rfl rfl (OpV.pickT rfl rfl rfl rfl aK4b) ?_
              refine VO.mv rfl rfl rfl rfl ?_
              refine VO.opX rfl rfl rfl rfl rfl ?_
              refine VO.opX rfl rfl rfl rfl rfl ?_
              refine VO.opX rfl rfl rfl rfl rfl ?_
              refine VO.opX rfl rfl rfl rfl rfl ?_
              refine VO.val rfl rfl (OpV.pickT rfl rfl rfl rfl rfl) ?_
              refine VO.ma rfl rfl rfl rfl ?_
              refine VO.nil ?_
              refine VC.condT rfl rfl ?_
              refine VC.sr ?_
              refine VO.ma rfl rfl rfl rfl ?_
              refine VO.nil ?_
              refine VC.ret ?_
              exact Exists.intro _ (And.intro (RetN.one Tryz.results17 (ResN.v rfl)) (by rw [machF_at (by omega) (by omega) (by omega) hn (machE_1 hk h2 (by first | exact o3a (by assumption) | exact o3b (by assumption) | exact o3c (by assumption))) (by decide)]))
      · have aH3 := aH3b
        try simp only [qqT, qqF, qqN, qqM, qqL, qqE] at aH3
        refine VC.exit ?_
        refine VC.sr ?_
        refine VO.ma rfl rfl rfl rfl ?_
        refine VO.nil ?_
        refine VC.ret ?_
        exact Exists.intro _ (And.intro (RetN.one Tryz.results17 (ResN.v rfl)) (by rw [machF_ok (by omega) (by omega) (fun j hj => hn j (by omega))]))
set_option maxRecDepth 100000 in
theorem rf_needsFault {l : List NeedS} {lo hi : Int} (hl : l.length ≤ 1000000000) (hb : ∀ i, (l.getD i default).key.size ≤ 1000000000) :
  SpecN Tryz.prog 85 [avL l, avI lo, avI hi] (fun y => y = avI (needsF l lo hi)) := by
 refine SpecN.of_VCN Tryz.func85 rfl Tryz.ntmps85 (Nle rfl) fun w A hB => ?_
 have hnew : True := trivial
 refine VC.sr ?_
 refine VO.ma rfl rfl rfl rfl ?_
 refine VO.nil ?_
 refine VC.seq ?_
 refine VC.sr ?_
 refine VO.mv rfl rfl rfl rfl ?_
 refine VO.val rfl rfl (OpV.len_im rfl Tryz.underlying28 rfl) ?_
 refine VO.val rfl rfl (OpV.gtr rfl rfl rfl) ?_
 refine VO.nil ?_
 refine VC.cond rfl (fun aH1b => ?_) (fun aH1b => ?_)
 ·have aH1 := aH1b
  try simp only [qqT, qqF, qqN, qqM, qqL, qqE] at aH1
  refine VC.sr ?_
  refine VO.ma rfl rfl rfl rfl ?_
  refine VO.nil ?_
  refine VC.ret ?_
  exact Exists.intro _ (And.intro (RetN.one Tryz.results85 (ResN.v rfl)) (by rw [needsF_big (by omega)]))
 ·have aH1 := aH1b
  try simp only [qqT, qqF, qqN, qqM, qqL, qqE] at aH1
  refine VC.skip ?_
  refine VC.sr ?_
  refine VO.ma rfl rfl rfl rfl ?_
  refine VO.nil ?_
  refine VC.seq ?_
  refine VC.sr ?_
  refine VO.mv rfl rfl rfl rfl ?_
  refine VO.val rfl rfl (OpV.len_im rfl Tryz.underlying28 rfl) ?_
  refine VO.mv rfl rfl rfl rfl ?_
  refine VO.nil ?_
  refine VC.block ?_
  refine VC.loopK [] trivial ({q : Nat // q ≤ l.length ∧ ∀ j, j < q → needE l lo hi j = 0}) (fun (iZ : {q : Nat // q ≤ l.length ∧ ∀ j, j < q → needE l lo hi j = 0}) => match iZ with | ⟨q, hq, hn⟩ => [(0, avL l), (1, avI lo), (2, avI hi), (13, avL l), (14, avI l.length), (15, avI (q : Int)), (7, avS (lastN l q))]) (fun (iZ : {q : Nat // q ≤ l.length ∧ ∀ j, j < q → needE l lo hi j = 0}) => match iZ with | ⟨q, hq, hn⟩ => []) (fun (iZ : {q : Nat // q ≤ l.length ∧ ∀ j, j < q → needE l lo hi j = 0}) => match iZ with | ⟨q, hq, hn⟩ => 0) (fun (iZ : {q : Nat // q ≤ l.length ∧ ∀ j, j < q → needE l lo hi j = 0}) => match iZ with | ⟨q, hq, hn⟩ => l.length - q) ⟨0, Nat.zero_le _, fun j hj => absurd hj (Nat.not_lt_zero j)⟩ (Le.mk hB [] ⟨rfl, rfl, rfl, rfl, rfl, rfl, rfl, trivial⟩ rfl rfl (Nat.le_refl _)) ?_
  rintro ⟨q, hq, hn⟩
  show VC _ _ _ _ ⟨[(0, avL l), (1, avI lo), (2, avI hi), (13, avL l), (14, avI l.length), (15, avI (q : Int)), (7, avS (lastN l q))] ++ [], [], 0⟩
  refine VC.sr ?_
  refine VO.val rfl rfl (OpV.lss rfl rfl rfl) ?_
  refine VO.nil ?_
  refine VC.seq ?_
  refine VC.cond rfl (fun aH2b => ?_) (fun aH2b => ?_)
  ·have aH2 := aH2b
   try simp only [qqT, qqF, qqN, qqM, qqL, qqE] at aH2
   refine VC.skip ?_
   refine VC.seq ?_
   refine VC.block ?_
   refine VC.sr ?_
   refine VO.val rfl rfl (OpV.indexAddr_E rfl Tryz.underlying28 Tryz.sizeOf111 rfl rfl rfl (by omega)) ?_
   refine VO.val rfl rfl (OpV.loadK_at rfl hB OutW.no Tryz.isAgg111 Tryz.sizeOf111 rfl rfl) ?_
   refine VO.op rfl (OpE.alloc rfl hB rfl Tryz.zeroValue111 rfl ?_)
   intro g9
   refine VO.op rfl (OpE.store (i := 0) rfl hB rfl Tryz.sizeOf111 rfl rfl rfl rfl rfl rfl (Nle rfl) trivial ?_)
   refine VO.nil ?_
   refine VC.seq ?_
   refine VC.block ?_
   refine VC.sr ?_
   refine VO.val rfl rfl (OpV.fieldAddrO 0 rfl Tryz.underlying111 rfl rfl Tryz.sizeOf9 rfl) ?_
   refine VO.val rfl rfl (OpV.load_own (i := 0) rfl hB Tryz.isAgg9 rfl rfl rfl (fun h => h)) ?_
   refine VO.op rfl (OpE.call rfl hB rfl Tryz.call82 rfl (SpecN.spec (rf_Key (hb _))) ?_)
   rintro _ rfl
   refine VO.val rfl rfl (OpV.not rfl rfl) ?_
   refine VO.ma rfl rfl rfl rfl ?_
   refine VO.nil ?_
   refine VC.cond rfl (fun hkb => ?_) (fun hkb => ?_)
   ·have hk := hkb
    try simp only [qqT, qqF, qqN, qqM, qqL, qqE] at hk
    refine VC.sr ?_
    refine VO.ma rfl rfl rfl rfl ?_
    refine VO.nil ?_
    refine VC.ret ?_
    exact Exists.intro _ (And.intro (RetN.one Tryz.results85 (ResN.v rfl)) (by rw [needsF_at (by omega) (by omega) hn (needE_5 hk) (by decide)]))
   ·have hk := hkb
    try simp only [qqT, qqF, qqN, qqM, qqL, qqE] at hk
    refine VC.sr ?_
    refine VO.val rfl rfl (OpV.fieldAddrO 0 rfl Tryz.underlying111 rfl rfl Tryz.sizeOf9 rfl) ?_
    refine VO.val rfl rfl (OpV.load_own (i := 0) rfl hB Tryz.isAgg9 rfl rfl rfl (fun h => h)) ?_
    refine VO.mv rfl rfl rfl rfl ?_
    refine VO.val rfl rfl (OpV.sleq rfl rfl rfl) ?_
    refine VO.ma rfl rfl rfl rfl ?_
    refine VO.nil ?_
    refine VC.cond rfl (fun hsb => ?_) (fun hsb => ?_)
    ·have hs := hsb
     try simp only [qqT, qqF, qqN, qqM, qqL, qqE] at hs
     refine VC.sr ?_
     refine VO.ma rfl rfl rfl rfl ?_
     refine VO.nil ?_
     refine VC.ret ?_
     exact Exists.intro _ (And.intro (RetN.one Tryz.results85 (ResN.v rfl)) (by rw [needsF_at (by omega) (by omega) hn (needE_7' hk hs) (by decide)]))
    ·have hs := hsb
     try simp only [qqT, qqF, qqN, qqM, qqL, qqE] at hs
     refine VC.sr ?_
     refine VO.val rfl rfl (OpV.fieldAddrO 1 rfl Tryz.underlying111 rfl rfl Tryz.sizeOf3 rfl) ?_
     refine VO.val rfl rfl (OpV.load_own (i := 0) rfl hB Tryz.isAgg3 rfl rfl rfl (fun h => h)) ?_
     refine VO.mv rfl rfl rfl rfl ?_
     refine VO.mv rfl rfl rfl rfl ?_
     refine VO.op rfl (OpE.call rfl hB rfl Tryz.call84 rfl (SpecN.spec (rf_in)) ?_)
     rintro _ rfl
     refine VO.val rfl rfl (OpV.not rfl rfl) ?_
     refine VO.ma rfl rfl rfl rfl ?_
     refine VO.nil ?_
     refine VC.cond rfl (fun hob => ?_) (fun hob => ?_)
     ·have ho := hob
      try simp only [qqT, qqF, qqN, qqM, qqL, qqE] at ho
      refine VC.sr ?_
      refine VO.ma rfl rfl rfl rfl ?_
      refine VO.nil ?_
      refine VC.ret ?_
      exact Exists.intro _ (And.intro (RetN.one Tryz.results85 (ResN.v rfl)) (by rw [needsF_at (by omega) (by omega) hn (needE_1 hk (lastN_ne hk hsb) ((outR_in _ _ _).trans hob)) (by decide)]))
     ·have ho := hob
      try simp only [qqT, qqF, qqN, qqM, qqL, qqE] at ho
      refine VC.skip ?_
      refine VC.region ?_
      refine VO.val rfl rfl (OpV.fieldAddrO 0 rfl Tryz.underlying111 rfl rfl Tryz.sizeOf9 rfl) ?_
      refine VO.val rfl rfl (OpV.load_own (i := 0) rfl hB Tryz.isAgg9 rfl rfl rfl (fun h => h)) ?_
      refine VO.ma rfl rfl rfl rfl ?_
      refine VO.nil ?_
      refine VC.region ?_
      refine VO.val rfl rfl (OpV.add rfl rfl rfl (by unfold fits; omega)) ?_
      refine VO.mv rfl rfl rfl rfl ?_
      refine VO.nil ?_
      exact Exists.intro (⟨q + 1, by omega, lt_succ_cases hn (needE_0 hk (lastN_ne hk hs) ((outR_in _ _ _).trans hob))⟩) (And.intro (Le.mk hB [] ⟨rfl, rfl, rfl, rfl, rfl, rfl, (by rw [lastN_succ]; rfl), trivial⟩ rfl rfl (Nat.le_refl _)) (by first | omega | (show _ < _; omega) | (simp only []; omega)))
  ·have aH2 := aH2b
   try simp only [qqT, qqF, qqN, qqM, qqL, qqE] at aH2
   refine VC.exit ?_
   refine VC.sr ?_
   refine VO.ma rfl rfl rfl rfl ?_
   refine VO.nil ?_
   refine VC.ret ?_
   exact Exists.intro _ (And.intro (RetN.one Tryz.results85 (ResN.v rfl)) (by rw [needsF_ok (by omega) (fun j hj => hn j (by omega))]))
set_option maxRecDepth 100000 in
theorem rf_NeedsFault {l : List NeedS} (hl : l.length ≤ 1000000000) (hb : ∀ i, (l.getD i default).key.size ≤ 1000000000) :
  SpecN Tryz.prog 18 [avL l] (fun y => y = avI (needsF l 1 1000)) := by
 refine SpecN.of_VCN Tryz.func18 rfl Tryz.ntmps18 (Nle rfl) fun w A hB => ?_
 have hnew : True := trivial
 refine VC.sr ?_
 refine VO.ma rfl rfl rfl rfl ?_
 refine VO.nil ?_
 refine VC.sr ?_
 refine VO.mv rfl rfl rfl rfl ?_
 refine VO.op rfl (OpE.call rfl hB rfl Tryz.call85 rfl (SpecN.spec (rf_needsFault hl hb)) ?_)
 rintro _ rfl
 refine VO.ma rfl rfl rfl rfl ?_
 refine VO.nil ?_
 refine VC.ret ?_
 exact Exists.intro _ (And.intro (RetN.one Tryz.results18 (ResN.v rfl)) (rfl))
set_option maxRecDepth 100000 in
theorem line_fault {ms : List Mach} {ns : List NeedS} (hl : ms.length ≤ 1000000000) (hb : ∀ i, (ms.getD i default).key.size ≤ 1000000000) (hc : ∀ i, (ms.getD i default).can.length ≤ 1000000000) (hcb : ∀ i j, ((ms.getD i default).can.getD j ByteArray.empty).size ≤ 1000000000) (hl' : ns.length ≤ 1000000000) (hb' : ∀ i, (ns.getD i default).key.size ≤ 1000000000) :
  SpecN Tryz.prog 71 [avL ms, avL ns] (fun y => y = avI (faultF ms ns)) := by
 refine SpecN.of_VCN Tryz.func71 rfl Tryz.ntmps71 (Nle rfl) fun w A hB => ?_
 have hnew : True := trivial
 refine VC.sr ?_
 refine VO.ma rfl rfl rfl rfl ?_
 refine VO.nil ?_
 refine VC.seq ?_
 refine VC.sr ?_
 refine VO.mv rfl rfl rfl rfl ?_
 refine VO.op rfl (OpE.call rfl hB rfl Tryz.call168 rfl (SpecN.spec (line_CheckMachines hl hb hc hcb)) ?_)
 rintro _ rfl
 refine VO.ma rfl rfl rfl rfl ?_
 refine VO.nil ?_
 refine VC.sr ?_
 refine VO.mv rfl rfl rfl rfl ?_
 refine VO.val rfl rfl (OpV.neq rfl rfl rfl) ?_
 refine VO.nil ?_
 refine VC.cond rfl (fun h0b => ?_) (fun h0b => ?_)
 ·have h0 := h0b
  try simp only [qqT, qqF, qqN, qqM, qqL, qqE] at h0
  refine VC.sr ?_
  refine VO.mv rfl rfl rfl rfl ?_
  refine VO.ma rfl rfl rfl rfl ?_
  refine VO.nil ?_
  refine VC.ret ?_
  exact Exists.intro _ (And.intro (RetN.one Tryz.results71 (ResN.v rfl)) (by first | rw [faultF, if_pos h0] | rw [faultF, if_neg h0]))
 ·have h0 := h0b
  try simp only [qqT, qqF, qqN, qqM, qqL, qqE] at h0
  refine VC.skip ?_
  refine VC.sr ?_
  refine VO.mv rfl rfl rfl rfl ?_
  refine VO.op rfl (OpE.call rfl hB rfl Tryz.call169 rfl (SpecN.spec (line_CheckNeeds hl' hb')) ?_)
  rintro _ rfl
  refine VO.ma rfl rfl rfl rfl ?_
  refine VO.nil ?_
  refine VC.ret ?_
  exact Exists.intro _ (And.intro (RetN.one Tryz.results71 (ResN.v rfl)) (by first | rw [faultF, if_pos h0] | rw [faultF, if_neg h0]))
end Go.Proofs.YtemnnmohdpabhaaGreatDoor
namespace Go.Proofs.YtemnnmohdpabhaaGreatDoor
open Go.RowKit
set_option linter.unusedVariables false
set_option linter.unusedSimpArgs false
set_option maxRecDepth 100000 in
theorem line_can {m : Mach} {v : ByteArray} (hl : m.can.length ≤ 1000000000) (hs : SortS m.can) :
  SpecN Tryz.prog 79 [avT m, avS v] (fun y => y = avB (hasK m v)) := by
 refine SpecN.of_VCN Tryz.func79 rfl Tryz.ntmps79 (Nle rfl) fun w A hB => ?_
 have hnew : True := trivial
 refine VC.sr ?_
 refine VO.op rfl (OpE.box rfl hB rfl rfl rfl ?_)
 intro g2
 refine VO.ma rfl rfl rfl rfl ?_
 refine VO.nil ?_
 refine VC.sr ?_
 refine VO.val rfl rfl (OpV.fieldAddrO 4 rfl Tryz.underlying106 rfl rfl Tryz.sizeOf40 rfl) ?_
 refine VO.val rfl rfl (OpV.load_own (i := 0) rfl hB Tryz.isAgg40 rfl rfl rfl (fun h => h)) ?_
 refine VO.mv rfl rfl rfl rfl ?_
 refine VO.op rfl (OpE.call rfl hB rfl Tryz.call174 rfl (slices_BinarySearch_str hl hs) ?_)
 rintro _ ⟨n11, rfl⟩
 refine VO.mv rfl rfl rfl rfl ?_
 refine VO.val rfl rfl (OpV.extract rfl rfl rfl) ?_
 refine VO.val rfl rfl (OpV.extract rfl rfl rfl) ?_
 refine VO.ma rfl rfl rfl rfl ?_
 refine VO.ma rfl rfl rfl rfl ?_
 refine VO.nil ?_
 refine VC.sr ?_
 refine VO.mv rfl rfl rfl rfl ?_
 refine VO.ma rfl rfl rfl rfl ?_
 refine VO.nil ?_
 refine VC.ret ?_
 exact Exists.intro _ (And.intro (RetN.one Tryz.results79 (ResN.v rfl)) (rfl))

end Go.Proofs.YtemnnmohdpabhaaGreatDoor
namespace Go.Proofs.YtemnnmohdpabhaaGreatDoor
open Go.RowKit
set_option linter.unusedVariables false
set_option linter.unusedSimpArgs false
section
variable {P : Program} {ops : Array Oper} {Q : Act → World → Prop} {md : Region.Mode} {E : Nat → World → World → Prop}
theorem wpAnyE_firstT {S : Nat → Bool} {F : World → World → Prop} (htr : ∀ x y z, F x y → F y z → F x z) (hrf : ∀ x, F x x) {i : Nat} (hEr : ∀ x, E i x x)
  (hEF : ∀ j oj, ops[j]? = some oj → S j = false → ∀ w w', E j w w' → F w w') (hcl : ∀ k, S k = true → k ≠ i → ∃ ok, ops[k]? = some ok ∧ ∃ e ∈ ok.after, Region.binds md e = true ∧ S e.on = true)
  {oi : Oper} {v : Value} (hi : ops[i]? = some oi) (hsel : ∀ (j : Nat) (o : Oper) cs b, ops[j]? = some o → o.op ≠ .select cs b) :
  ∀ (fuel : Nat) (listed : Array Bool) (a : Act) (w : World), (∀ k, S k = true → listed.getD k true = false) →
   (∀ j oj, ops[j]? = some oj → j ≠ i → listed.getD j true = false → (∀ e ∈ oj.after, Region.binds md e = true → e.on ≠ i) → oi.apart ops oj = true) →
   i ∈ Region.ready md ops listed → YieldsE P ops F oi v a w →
   wpAnyE P md ops Q E fuel (listed.setIfInBounds i true) (a.put oi.dst v) w → wpAnyE P md ops Q E (fuel + 1) listed a w := by
 intro fuel
 induction fuel with
 | zero =>
  intro listed a w _ _ hr hy H
  refine ⟨fun h => (by rw [h] at hr; cases hr), fun j hj => ?_⟩
  by_cases hji : j = i
  ·subst hji; exact YieldsIf.wpOp hi hy.iff (hrf w) ⟨hEr w, H⟩
  ·have := ready_mono hj hji
   rw [H.1] at this
   cases this
 | succ fuel ih =>
  intro listed a w hS hfree hr hy H
  refine ⟨fun h => (by rw [h] at hr; cases hr), fun j hj => ?_⟩
  by_cases hji : j = i
  ·subst hji; exact YieldsIf.wpOp hi hy.iff (hrf w) ⟨hEr w, H⟩
  ·have h1 := H.2 j (ready_mono hj hji)
   obtain ⟨hjun, oj, hoj, hall⟩ := mem_ready.1 hj
   have hnot : ∀ e ∈ oj.after, Region.binds md e = true → e.on ≠ i := fun e he hb heq => by
    have h1 := hall e he hb
    have h0 := (mem_ready.1 hr).1
    rw [heq] at h1
    rcases Nat.lt_or_ge i listed.size with h' | h'
    ·simp [h'] at h0 h1; rw [h0] at h1; cases h1
    ·simp [Array.getElem?_eq_none h'] at h1
   have hjS : S j = false := by
    cases hc : S j with
    | false => rfl
    | true =>
     obtain ⟨ok, k1, e, he, hb, k2⟩ := hcl j hc hji
     obtain rfl : oj = ok := Option.some.inj (hoj.symm.trans k1)
     have h1 := hall e he hb
     have h0 := hS e.on k2
     rcases Nat.lt_or_ge e.on listed.size with h' | h'
     ·simp [h'] at h0 h1; rw [h0] at h1; cases h1
     ·simp [Array.getElem?_eq_none h'] at h1
   have h2 := wpOp_putIf (S := F w) hoj (hfree j oj hoj hji hjun hnot) (fun cs b => hsel i oi cs b hi) (fun cs b => hsel j oj cs b hoj) (fun c a w h => h.elim) hy.iff h1
   have hfree' : ∀ k ok, ops[k]? = some ok → k ≠ i → (listed.setIfInBounds j true).getD k true = false →
     (∀ e ∈ ok.after, Region.binds md e = true → e.on ≠ i) → oi.apart ops ok = true := fun k ok hk hki hun hno => by
    refine hfree k ok hk hki ?_ hno
    by_cases hjk : j = k
    ·subst hjk; exact hjun
    ·rw [Go.getD_set_ne true hjk] at hun; exact hun
   have hS' : ∀ k, S k = true → (listed.setIfInBounds j true).getD k true = false := fun k hk => by
    have hjk : j ≠ k := fun e => by rw [e, hk] at hjS; cases hjS
    rw [Go.getD_set_ne true hjk]; exact hS k hk
   refine wpOp_mono (fun a' w' h3 => ⟨h3.2.1, ih (listed.setIfInBounds j true) a' w' hS' hfree' (ready_mono hr (Ne.symm hji)) ?_ ?_⟩) h2
   ·rcases h3.1 with ⟨k1, k2⟩ | k
    ·exact .inl ⟨k1, fun w'' hw'' => k2 w'' (htr _ _ _ (hEF j oj hoj hjS _ _ h3.2.1) hw'')⟩
    ·exact .inr k
   rw [Array.setIfInBounds_comm _ _ hji]
   exact h3.2.2
end
section
variable {P : Program} {B : Bs} {V : Nat → Nat → Prop} {ops : Array Oper} {s : St'} {Q : Exit → St' → Prop} {n : Nat} {L : Array Bool}
def WS (V : Nat → Nat → Prop) (S : List Nat) : Nat → Prop := fun b => ∃ j, S.contains j = false ∧ V j b
def hangB (ops : Array Oper) (S : List Nat) (i : Nat) : Bool := S.all fun k => k == i || match ops[k]? with
 | some o => o.after.any fun e => Region.binds .any e && S.contains e.on
 | none => false
theorem VA.takeT (S : List Nat) {i : Nat} {o : Oper} {x : AV} (hS : hangB ops S i = true) (hL : (S.all fun k => !(L.getD k true)) = true) (hi : ops[i]? = some o) (hs : Region.noSelect ops = true) (hf : Region.free .any ops L i = true) (hr : (Region.ready .any ops L).contains i = true) (hg : o.guard = none) (hd : okd B.nt o.dst = true)
  (hv : OpV P B (WS V S) s o x) (h : VA P B V ops Q n (L.setIfInBounds i true) (s.put o.dst x)) : VA P B V ops Q (n + 1) L s := fun a w hR => by
 obtain ⟨v, h1, h2⟩ := hv a w hR
 refine wpAnyE_firstT (S := fun k => S.contains k) (F := Ew B (WS V S)) Ew.tr Ew.rf (fun x => Ew.rf x) (fun j oj hj hjS w w' h => h.mono fun b _ hb => hb.imp id fun hv => ⟨j, hjS, hv⟩) (fun k hk hki => ?_) hi (Region.noSelect_spec hs) n L a w (fun k hk => ?_) (Region.free_spec hi hf) (by simpa using hr) (.inl ⟨by simp [Region.wanted, hg], h1⟩) (h _ _ (hR.put _ hd _ _ h2))
 ·have hk' : k ∈ S := by simpa using hk
  have := List.all_eq_true.1 hS k hk'
  simp only [Bool.or_eq_true, beq_iff_eq] at this
  have := this.resolve_left hki
  cases ho : ops[k]? with
  | none => rw [ho] at this; cases this
  | some ok =>
   rw [ho] at this
   obtain ⟨e, he, h3⟩ := Array.any_eq_true'.1 this
   simp only [Bool.and_eq_true] at h3
   exact ⟨ok, rfl, e, he, h3.1, h3.2⟩
 ·have hk' : k ∈ S := by simpa using hk
  have := List.all_eq_true.1 hL k hk'
  simpa using this
end
end Go.Proofs.YtemnnmohdpabhaaGreatDoor
namespace Go.Proofs.YtemnnmohdpabhaaGreatDoor
open Go.RowKit
set_option linter.unusedVariables false
set_option linter.unusedSimpArgs false
def balC (ms : List Mach) (ns : List NeedS) (u : Value) : Nat → AV := fun j => match j with
 | 0 => avL ms
 | 1 => avL ns
 | 2 => .v u
 | _ => .any
theorem bit_no (set q : Nat) : decide (((set / 2 ^ q &&& 1 : Nat) : Int) = 0) = !set.testBit q := by
 rw [Nat.testBit_eq_decide_div_mod_eq, Nat.and_one_is_mod]
 have h := Nat.mod_two_eq_zero_or_one (set / 2 ^ q)
 rcases h with h | h
 ·rw [h]; rfl
 ·rw [h]; rfl
section
variable {m : Mach} {ns : List NeedS} {b : Nat → Bool} {q : Nat}
theorem timB_no (h : b q = false) : timB m ns b (q + 1) = timB m ns b q := by rw [timB, if_neg (by rw [h]; simp)]
theorem timB_yes (h : b q = true) : timB m ns b (q + 1) = timB m ns b q + m.each * (ns.getD q default).count := by rw [timB, if_pos h]
theorem numB_no (h : b q = false) : numB b (q + 1) = numB b q := by rw [numB, if_neg (by rw [h]; simp)]; rfl
theorem numB_yes (h : b q = true) : numB b (q + 1) = numB b q + 1 := by rw [numB, if_pos h]
theorem okA_skip (h : b q = false) : okA m ns b q = true := by unfold okA; rw [h]; rfl
theorem okA_f1 (h : b q = true) (h2 : m.feeders < (numB b q : Int) + 1) : okA m ns b q = false := by
 unfold okA
 rw [h, numB_yes h, decide_eq_false (by omega)]; simp
theorem okA_f2 (h : b q = true) (h2 : hasK m (ns.getD q default).key = false) : okA m ns b q = false := by
 unfold okA
 rw [h, h2]; simp
theorem okA_yes (h : b q = true) (h2 : ¬ m.feeders < (numB b q : Int) + 1) (h3 : hasK m (ns.getD q default).key = true) : okA m ns b q = true := by
 unfold okA
 rw [h, h3, numB_yes h, decide_eq_true (by omega)]; rfl
theorem numB_le (b : Nat → Bool) : ∀ q, numB b q ≤ q
 | 0 => Nat.le_refl _
 | q + 1 => by have := numB_le b q; rw [numB]; split <;> omega
end
set_option maxRecDepth 100000 in
set_option maxHeartbeats 4000000 in
theorem bal_cycle {ms : List Mach} {ns : List NeedS} {u : Value} {k set : Nat} (hm : machF ms = 0) (hns : needsF ns 1 1000 = 0) (h12 : ns.length ≤ 12) (hk : k < ms.length) (hset : set < 9223372036854775808) :
  SpecN Tryz.prog 170 [.at_ 3 (balC ms ns u), avI (k : Int), avI (set : Int)] (fun y => y = avI (cycB (ms.getD k default) ns set.testBit)) := by
 have hM := MnOk.mk' hm hns
 have hlen := machF_len hm
 have hfe := (machF_each hm hk).1.2.2
 refine SpecN.of_VCN Tryz.func170 rfl Tryz.ntmps170 (Nle rfl) fun w A hB => ?_
 have hnew : True := trivial
 refine VC.sr ?_
 refine VO.ma rfl rfl rfl rfl ?_
 refine VO.nil ?_
 refine VC.sr ?_
 refine VO.mv rfl rfl rfl rfl ?_
 refine VO.val rfl rfl (OpV.nilCheck_at rfl rfl) ?_
 refine VO.val rfl rfl (OpV.fieldAddr_atO 0 rfl Tryz.underlying116 rfl rfl Tryz.sizeOf26 rfl rfl) ?_
 refine VO.val rfl rfl (OpV.load_at rfl hB OutW.no Tryz.isAgg26 rfl rfl) ?_
 refine VO.le _ (Le.recast (t := 15) (y := avL ms) rfl (fun w Z u h => h)) ?_
 refine VO.mv rfl rfl rfl rfl ?_
 refine VO.val rfl rfl (OpV.indexAddr_E rfl Tryz.underlying26 Tryz.sizeOf106 rfl rfl rfl (by omega)) ?_
 refine VO.val rfl rfl (OpV.loadK_at rfl hB OutW.no Tryz.isAgg106 Tryz.sizeOf106 rfl rfl) ?_
 refine VO.op rfl (OpE.alloc rfl hB rfl Tryz.zeroValue106 rfl ?_)
 intro g7
 refine VO.op rfl (OpE.store (i := 0) rfl hB rfl Tryz.sizeOf106 rfl rfl rfl rfl rfl rfl (Nle rfl) trivial ?_)
 refine VO.nil ?_
 refine VC.sr ?_
 refine VO.val rfl rfl (OpV.fieldAddrO 2 rfl Tryz.underlying106 rfl rfl Tryz.sizeOf3 rfl) ?_
 refine VO.val rfl rfl (OpV.load_own (i := 0) rfl hB Tryz.isAgg3 rfl rfl rfl (fun h => h)) ?_
 refine VO.ma rfl rfl rfl rfl ?_
 refine VO.ma rfl rfl rfl rfl ?_
 refine VO.nil ?_
 refine VC.seq ?_
 refine VC.sr ?_
 refine VO.mv rfl rfl rfl rfl ?_
 refine VO.val rfl rfl (OpV.nilCheck_at rfl rfl) ?_
 refine VO.val rfl rfl (OpV.fieldAddr_atO 1 rfl Tryz.underlying116 rfl rfl Tryz.sizeOf28 rfl rfl) ?_
 refine VO.val rfl rfl (OpV.load_at rfl hB OutW.no Tryz.isAgg28 rfl rfl) ?_
 refine VO.le _ (Le.recast (t := 24) (y := avL ns) rfl (fun w Z u h => h)) ?_
 refine VO.val rfl rfl (OpV.len_im rfl Tryz.underlying28 rfl) ?_
 refine VO.mv rfl rfl rfl rfl ?_
 refine VO.nil ?_
 refine VC.block ?_
 refine VC.loopK [(2, _), (7, _), (24, _), (25, _)] ⟨rfl, rfl, rfl, rfl, trivial⟩ ({q : Nat // q ≤ ns.length ∧ ∀ j, j < q → okA (ms.getD k default) ns set.testBit j = true}) (fun (iZ : {q : Nat // q ≤ ns.length ∧ ∀ j, j < q → okA (ms.getD k default) ns set.testBit j = true}) => match iZ with | ⟨q, hq, hn⟩ => [(8, avI (timB (ms.getD k default) ns set.testBit q)), (9, avI (numB set.testBit q : Int)), (26, avI (q : Int))]) (fun (iZ : {q : Nat // q ≤ ns.length ∧ ∀ j, j < q → okA (ms.getD k default) ns set.testBit j = true}) => match iZ with | ⟨q, hq, hn⟩ => [.box g7 ⟨tab 5 (Sxc.cell (ms.getD k default)), 106, 5⟩]) (fun (iZ : {q : Nat // q ≤ ns.length ∧ ∀ j, j < q → okA (ms.getD k default) ns set.testBit j = true}) => match iZ with | ⟨q, hq, hn⟩ => 0) (fun (iZ : {q : Nat // q ≤ ns.length ∧ ∀ j, j < q → okA (ms.getD k default) ns set.testBit j = true}) => match iZ with | ⟨q, hq, hn⟩ => ns.length - q) ⟨0, Nat.zero_le _, fun j hj => absurd hj (Nat.not_lt_zero j)⟩ (Le.mk hB [0] ⟨rfl, rfl, rfl, rfl, rfl, rfl, rfl, trivial⟩ rfl rfl (Nat.le_refl _)) ?_
 rintro ⟨q, hq, hn⟩
 show VC _ _ _ _ ⟨[(8, avI (timB (ms.getD k default) ns set.testBit q)), (9, avI (numB set.testBit q : Int)), (26, avI (q : Int))] ++ [(2, _), (7, _), (24, _), (25, _)], [.box g7 ⟨tab 5 (Sxc.cell (ms.getD k default)), 106, 5⟩], 0⟩
 have hti := timB_in hM k set.testBit q
 have hmu := mul_in2 (hM.each k) (hM.cnt q)
 have hnb := numB_le set.testBit q
 refine VC.sr ?_
 refine VO.val rfl rfl (OpV.lss rfl rfl rfl) ?_
 refine VO.nil ?_
 refine VC.seq ?_
 refine VC.cond rfl (fun aH1b => ?_) (fun aH1b => ?_)
 ·have aH1 := aH1b
  try simp only [qqT, qqF, qqN, qqM, qqL, qqE] at aH1
  refine VC.skip ?_
  refine VC.seq ?_
  refine VC.block ?_
  refine VC.sr ?_
  refine VO.mv rfl rfl rfl rfl ?_
  refine VO.val rfl rfl (OpV.indexAddr_E rfl Tryz.underlying28 Tryz.sizeOf111 rfl rfl rfl (by omega)) ?_
  refine VO.val rfl rfl (OpV.loadK_at rfl hB OutW.no Tryz.isAgg111 Tryz.sizeOf111 rfl rfl) ?_
  refine VO.op rfl (OpE.alloc rfl hB rfl Tryz.zeroValue111 rfl ?_)
  intro g11
  refine VO.ma rfl rfl rfl rfl ?_
  refine VO.op rfl (OpE.store (i := 1) rfl hB rfl Tryz.sizeOf111 rfl rfl rfl rfl rfl rfl (Nle rfl) trivial ?_)
  refine VO.nil ?_
  refine VC.seq ?_
  refine VC.sr ?_
  refine VO.mv rfl rfl rfl rfl ?_
  refine VO.mv rfl rfl rfl rfl ?_
  refine VO.val rfl rfl (OpV.bshr rfl rfl rfl (by omega)) ?_
  refine VO.val rfl rfl (OpV.band (b := 1) rfl rfl rfl (Nat.lt_of_le_of_lt (Nat.div_le_self _ _) hset) (by decide)) ?_
  refine VO.val rfl rfl (OpV.eql rfl rfl rfl) ?_
  refine VO.le _ (Le.recast (t := 35) (y := avB (!(set.testBit q))) rfl (fun w Z u h => by rw [← bit_no]; exact h)) ?_
  refine VO.nil ?_
  refine VC.cond rfl (fun h1b => ?_) (fun h1b => ?_)
  ·have h1 := h1b
   try simp only [qqT, qqF, qqN, qqM, qqL, qqE] at h1
   refine VC.exit ?_
   refine VC.region ?_
   refine VO.val rfl rfl (OpV.add rfl rfl rfl (by unfold fits; omega)) ?_
   refine VO.mv rfl rfl rfl rfl ?_
   refine VO.nil ?_
   exact Exists.intro (⟨q + 1, by omega, lt_succ_cases hn ((okA_skip h1))⟩) (And.intro (Le.mk hB [0] ⟨(by dsimp only; first | (rw [timB_no h1]; rfl) | (rw [timB_yes h1]; rfl)), (by dsimp only; first | (rw [numB_no h1]; rfl) | (rw [numB_yes h1]; rfl)), rfl, rfl, rfl, rfl, rfl, trivial⟩ rfl rfl (Nat.le_refl _)) (by first | omega | (show _ < _; omega) | (simp only []; omega)))
  ·have h1 := h1b
   try simp only [qqT, qqF, qqN, qqM, qqL, qqE] at h1
   refine VC.skip ?_
   refine VC.seq ?_
   refine VC.sr ?_
   refine VO.mv rfl rfl rfl rfl ?_
   refine VO.val rfl rfl (OpV.add rfl rfl rfl (by unfold fits; omega)) ?_
   refine VO.ma rfl rfl rfl rfl ?_
   refine VO.nil ?_
   refine VC.sr ?_
   refine VO.mv rfl rfl rfl rfl ?_
   refine VO.val rfl rfl (OpV.fieldAddrO 3 rfl Tryz.underlying106 rfl rfl Tryz.sizeOf3 rfl) ?_
   refine VO.val rfl rfl (OpV.load_own (i := 0) rfl hB Tryz.isAgg3 rfl rfl rfl (fun h => h)) ?_
   refine VO.val rfl rfl (OpV.gtr rfl rfl rfl) ?_
   refine VO.mv rfl rfl rfl rfl ?_
   refine VO.opG rfl rfl rfl rfl (fun aK2b => ?_) (fun aK2b => ?_)
   ·replace aK2b : _ = false := aK2b
    have aK2 := aK2b
    try simp only [qqT, qqF, qqN, qqM, qqL, qqE] at aK2
    refine OpE.val (W := NoB) (OpV.loadK_own (i := 0) rfl hB Tryz.isAgg106 Tryz.sizeOf106 rfl rfl rfl (fun h => h)) rfl ?_
    refine VO.opY rfl rfl rfl rfl aK2b ?_
    refine OpE.val (W := NoB) (OpV.fieldAddrO 0 rfl Tryz.underlying111 rfl rfl Tryz.sizeOf9 rfl) rfl ?_
    refine VO.opY rfl rfl rfl rfl aK2b ?_
    refine OpE.val (W := NoB) (OpV.load_own (i := 1) rfl hB Tryz.isAgg9 rfl rfl rfl (fun h => h)) rfl ?_
    refine VO.opY rfl rfl rfl rfl aK2b ?_
    refine OpE.call rfl hB rfl Tryz.call79 rfl (SpecN.spec (line_can (by have := canF_keys (machF_each hm hk).2; omega) (canF_sort (machF_each hm hk).2))) ?_
    rintro _ rfl
    refine VO.opY rfl rfl rfl rfl aK2b ?_
    refine OpE.val (W := NoB) (OpV.not rfl rfl) rfl ?_
    refine VO.val rfl rfl (OpV.pickF rfl rfl rfl rfl aK2b) ?_
    refine VO.nil ?_
    refine VC.cond rfl (fun h2b => ?_) (fun h2b => ?_)
    ·have h2 := h2b
     try simp only [qqT, qqF, qqN, qqM, qqL, qqE] at h2
     refine VC.sr ?_
     refine VO.ma rfl rfl rfl rfl ?_
     refine VO.nil ?_
     refine VC.ret ?_
     exact Exists.intro _ (And.intro (RetN.one Tryz.results170 (ResN.v rfl)) (by first | rw [okB_no (i := q) (by omega) (okA_f1 h1 (by omega))] | rw [okB_no (i := q) (by omega) (okA_f2 h1 (by simpa using h2))]))
    ·have h2 := h2b
     try simp only [qqT, qqF, qqN, qqM, qqL, qqE] at h2
     refine VC.skip ?_
     refine VC.region ?_
     refine VO.mv rfl rfl rfl rfl ?_
     refine VO.val rfl rfl (OpV.fieldAddrO 1 rfl Tryz.underlying106 rfl rfl Tryz.sizeOf3 rfl) ?_
     refine VO.val rfl rfl (OpV.load_own (i := 0) rfl hB Tryz.isAgg3 rfl rfl rfl (fun h => h)) ?_
     refine VO.val rfl rfl (OpV.fieldAddrO 1 rfl Tryz.underlying111 rfl rfl Tryz.sizeOf3 rfl) ?_
     refine VO.val rfl rfl (OpV.load_own (i := 1) rfl hB Tryz.isAgg3 rfl rfl rfl (fun h => h)) ?_
     refine VO.val rfl rfl (OpV.mul rfl rfl rfl (by unfold fits; omega)) ?_
     refine VO.val rfl rfl (OpV.add rfl rfl rfl (by unfold fits; omega)) ?_
     refine VO.ma rfl rfl rfl rfl ?_
     refine VO.nil ?_
     refine VC.region ?_
     refine VO.val rfl rfl (OpV.add rfl rfl rfl (by unfold fits; omega)) ?_
     refine VO.mv rfl rfl rfl rfl ?_
     refine VO.nil ?_
     exact Exists.intro (⟨q + 1, by omega, lt_succ_cases hn ((okA_yes h1 (by omega) (by simpa using h2)))⟩) (And.intro (Le.mk hB [0] ⟨(by dsimp only; first | (rw [timB_no h1]; rfl) | (rw [timB_yes h1]; rfl)), (by dsimp only; first | (rw [numB_no h1]; rfl) | (rw [numB_yes h1]; rfl)), rfl, rfl, rfl, rfl, rfl, trivial⟩ rfl rfl (Nat.le_refl _)) (by first | omega | (show _ < _; omega) | (simp only []; omega)))
   ·replace aK2b : _ = true := aK2b
    have aK2 := aK2b
    try simp only [qqT, qqF, qqN, qqM, qqL, qqE] at aK2
    refine VO.opX rfl rfl rfl rfl aK2b ?_
    refine VO.opX rfl rfl rfl rfl aK2b ?_
    refine VO.opX rfl rfl rfl rfl aK2b ?_
    refine VO.opX rfl rfl rfl rfl aK2b ?_
    refine VO.val rfl rfl (OpV.pickT rfl rfl rfl rfl aK2b) ?_
    refine VO.nil ?_
    refine VC.condT rfl rfl ?_
    refine VC.sr ?_
    refine VO.ma rfl rfl rfl rfl ?_
    refine VO.nil ?_
    refine VC.ret ?_
    exact Exists.intro _ (And.intro (RetN.one Tryz.results170 (ResN.v rfl)) (by first | rw [okB_no (i := q) (by omega) (okA_f1 h1 (by omega))] | rw [okB_no (i := q) (by omega) (okA_f2 h1 (by simpa using h2))]))
 ·have aH1 := aH1b
  try simp only [qqT, qqF, qqN, qqM, qqL, qqE] at aH1
  refine VC.exit ?_
  refine VC.sr ?_
  refine VO.mv rfl rfl rfl rfl ?_
  refine VO.ma rfl rfl rfl rfl ?_
  refine VO.nil ?_
  refine VC.ret ?_
  exact Exists.intro _ (And.intro (RetN.one Tryz.results170 (ResN.v rfl)) (by rw [okB_all (fun i hi => hn i (by omega)), show q = ns.length by omega]))
theorem or_lt12 {a b : Nat} (ha : a < 4096) (hb : b < 4096) : a ||| b < 4096 := Nat.or_lt_two_pow (n := 12) ha hb
abbrev fixB (gf n : Nat) (fx : Nat → Nat) : Ent := .box gf ⟨intsL (tabI n fun k => (fx k : Int)), 3, n⟩
theorem belS_zero' {ms : List Mach} {ns : List NeedS} {fx : Nat → Nat} {r : Nat} {bl : List Int} (h : bl.length = r + 1) (hn : ∀ j, j < r + 1 → bl.getD j 0 = neverC) : SetI r (belS ms ns fx 0) (bl.set 0 0) := ⟨by rw [List.length_set]; exact h, fun s hs => by
 have := hs.le
 rw [getDs (by omega), belS]
 by_cases e : s = 0
 ·rw [if_pos e, if_pos e]
 ·rw [if_neg e, if_neg e]; exact hn s (by omega)⟩
theorem intsL_getV {xs : List Int} {j : Nat} {v : Int} (h : j < xs.length) (hv : xs.getD j 0 = v) : (intsL xs)[j]? = some (avI v) := by rw [intsL_get h, hv]
theorem setInt_get {l : List Int} {j : Nat} {v : Int} (h : j < l.length) : (intsL (l.set j v))[j]? = some (avI v) := by rw [intsL_get (by rw [List.length_set]; exact h), getDs h, if_pos rfl]
theorem setInt_set (l : List Int) (j : Nat) (v x : Int) : (intsL (l.set j v)).set j (avI x) = intsL (l.set j x) := by rw [intsL_set, List.set_set]
theorem rep_len (n : Nat) (x : Int) : (List.replicate n x).length = n := by simp
set_option maxRecDepth 100000 in
set_option maxHeartbeats 16000000 in
theorem bal_longest {ms : List Mach} {ns : List NeedS} {gf : Nat} {fx : Nat → Nat} {rest : Nat} (hm : machF ms = 0) (hn : needsF ns 1 1000 = 0) (h12 : ns.length ≤ 12) (hr : rest < 4096) (hfx : ∀ k, fx k < 4096) :
  SpecH Tryz.prog 72 [.at_ 3 (balC ms ns (.slice (some ⟨gf, 0, none⟩) ms.length ms.length)), avI (rest : Int)] [fixB gf ms.length fx] (fun y hp' => y = avI (belS ms ns fx ms.length rest) ∧ hp' = [fixB gf ms.length fx]) := by
 have hMn := MnOk.mk' hm hn
 have hlen := machF_len hm
 refine SpecH.of_VC Tryz.func72 rfl Tryz.ntmps72 (Nle rfl) fun w A hB => ?_
 have hnew : True := trivial
 refine VC.sr ?_
 refine VO.ma rfl rfl rfl rfl ?_
 refine VO.nil ?_
 refine VC.sr ?_
 refine VO.mv rfl rfl rfl rfl ?_
 refine VO.val rfl rfl (OpV.add rfl rfl rfl (by unfold fits; omega)) ?_
 refine VO.op rfl (OpE.make rfl hB rfl Tryz.underlying22 (infoOf Tryz.t3 1 (by kernel_rfl) rfl rfl) (by decide) rfl rfl (n := rest + 1) (by omega) (by omega) (by omega) (made_ints _) ?_)
 intro g15
 rw [intsL_len, List.length_replicate]
 refine VO.ma rfl rfl rfl rfl ?_
 refine VO.nil ?_
 refine VC.seq ?_
 refine VC.sr ?_
 refine VO.mv rfl rfl rfl rfl ?_
 refine VO.val rfl rfl (OpV.len_v rfl Tryz.underlying22 rfl) ?_
 refine VO.mv rfl rfl rfl rfl ?_
 refine VO.nil ?_
 refine VC.block ?_
 refine VC.loopK [(0, _), (1, _), (5, _), (17, _)] ⟨rfl, rfl, rfl, rfl, trivial⟩ ({z : List Int × Nat // z.2 ≤ rest + 1 ∧ z.1.length = rest + 1 ∧ ∀ j, j < z.2 → z.1.getD j 0 = neverC}) (fun (iZ : {z : List Int × Nat // z.2 ≤ rest + 1 ∧ z.1.length = rest + 1 ∧ ∀ j, j < z.2 → z.1.getD j 0 = neverC}) => match iZ with | ⟨⟨bl, q⟩, hq, hbl, hbn⟩ => [(18, avI (q : Int))]) (fun (iZ : {z : List Int × Nat // z.2 ≤ rest + 1 ∧ z.1.length = rest + 1 ∧ ∀ j, j < z.2 → z.1.getD j 0 = neverC}) => match iZ with | ⟨⟨bl, q⟩, hq, hbl, hbn⟩ => [fixB gf ms.length fx, .box g15 ⟨intsL bl, 3, rest + 1⟩]) (fun (iZ : {z : List Int × Nat // z.2 ≤ rest + 1 ∧ z.1.length = rest + 1 ∧ ∀ j, j < z.2 → z.1.getD j 0 = neverC}) => match iZ with | ⟨⟨bl, q⟩, hq, hbl, hbn⟩ => 0) (fun (iZ : {z : List Int × Nat // z.2 ≤ rest + 1 ∧ z.1.length = rest + 1 ∧ ∀ j, j < z.2 → z.1.getD j 0 = neverC}) => match iZ with | ⟨⟨bl, q⟩, hq, hbl, hbn⟩ => rest + 1 - q) ⟨(List.replicate (rest + 1) 0, 0), Nat.zero_le _, rep_len _ _, fun j hj => absurd hj (Nat.not_lt_zero j)⟩ (Le.mk hB [0, 1] ⟨rfl, rfl, rfl, rfl, rfl, trivial⟩ rfl rfl (Nat.le_refl _)) ?_
 rintro ⟨⟨bl, q⟩, hq, hbl, hbn⟩
 show VC _ _ _ _ ⟨[(18, avI (q : Int))] ++ [(0, _), (1, _), (5, _), (17, _)], [fixB gf ms.length fx, .box g15 ⟨intsL bl, 3, rest + 1⟩], 0⟩
 simp only at hq hbl hbn
 refine VC.sr ?_
 refine VO.val rfl rfl (OpV.lss rfl rfl rfl) ?_
 refine VO.nil ?_
 refine VC.seq ?_
 refine VC.cond rfl (fun aH1b => ?_) (fun aH1b => ?_)
 ·have aH1 := aH1b
  try simp only [qqT, qqF, qqN, qqM, qqL, qqE] at aH1
  refine VC.skip ?_
  refine VC.seq ?_
  refine VC.block ?_
  refine VC.sr ?_
  refine VO.mv rfl rfl rfl rfl ?_
  refine VO.ma rfl rfl rfl rfl ?_
  refine VO.nil ?_
  refine VC.region ?_
  refine VO.mv rfl rfl rfl rfl ?_
  refine VO.mv rfl rfl rfl rfl ?_
  refine VO.val rfl rfl (OpV.indexAddr_o rfl Tryz.underlying22 Tryz.sizeOf3 rfl rfl rfl (by omega)) ?_
  refine VO.op rfl (OpE.store1 (i := 1) rfl hB rfl Tryz.sizeOf3 rfl rfl rfl rfl rfl rfl (by rw [intsL_len]; omega) (intsL_set _ _ _) trivial ?_)
  refine VO.nil ?_
  refine VC.region ?_
  refine VO.val rfl rfl (OpV.add rfl rfl rfl (by unfold fits; omega)) ?_
  refine VO.mv rfl rfl rfl rfl ?_
  refine VO.nil ?_
  exact Exists.intro (⟨(bl.set q neverC, q + 1), by show q + 1 ≤ _; omega, by show (bl.set q neverC).length = _; rw [List.length_set]; exact hbl, fun j hj => by show (bl.set q neverC).getD j 0 = _; rw [getDs (by omega)]; by_cases e : j = q; (rw [if_pos e]); (rw [if_neg e]; exact hbn j (by have : j < q + 1 := hj; omega))⟩) (And.intro (Le.mk hB [0, 1] ⟨rfl, rfl, rfl, rfl, rfl, trivial⟩ rfl rfl (Nat.le_refl _)) (by first | omega | (show _ < _; omega) | (simp only []; omega)))
 ·have aH1 := aH1b
  try simp only [qqT, qqF, qqN, qqM, qqL, qqE] at aH1
  refine VC.exit ?_
  refine VC.sr ?_
  refine VO.mv rfl rfl rfl rfl ?_
  refine VO.val rfl rfl (OpV.indexAddr_o rfl Tryz.underlying22 Tryz.sizeOf3 rfl rfl (Int.toNat_of_nonneg (by omega)).symm (by omega)) ?_
  refine VO.op rfl (OpE.store1 (i := 1) rfl hB rfl Tryz.sizeOf3 rfl rfl rfl rfl rfl rfl (by rw [intsL_len]; omega) (intsL_set _ _ _) trivial ?_)
  refine VO.nil ?_
  refine VC.seq ?_
  refine VC.sr ?_
  refine VO.mv rfl rfl rfl rfl ?_
  refine VO.val rfl rfl (OpV.nilCheck_at rfl rfl) ?_
  refine VO.val rfl rfl (OpV.fieldAddr_atO 0 rfl Tryz.underlying116 rfl rfl Tryz.sizeOf26 rfl rfl) ?_
  refine VO.val rfl rfl (OpV.load_at rfl hB OutW.no Tryz.isAgg26 rfl rfl) ?_
  refine VO.val rfl rfl (OpV.len_im rfl Tryz.underlying26 rfl) ?_
  refine VO.mv rfl rfl rfl rfl ?_
  refine VO.nil ?_
  refine VC.block ?_
  refine VC.loopK [(0, _), (1, _), (31, _)] ⟨rfl, rfl, rfl, trivial⟩ ({z : Nat × List Int × Nat // z.2.2 ≤ ms.length ∧ SetI rest (belS ms ns fx z.2.2) z.2.1}) (fun (iZ : {z : Nat × List Int × Nat // z.2.2 ≤ ms.length ∧ SetI rest (belS ms ns fx z.2.2) z.2.1}) => match iZ with | ⟨⟨gb, bl, k⟩, hk, hS⟩ => [(5, .v (.slice (some ⟨gb, 0, none⟩) (rest + 1) (rest + 1))), (32, avI (k : Int))]) (fun (iZ : {z : Nat × List Int × Nat // z.2.2 ≤ ms.length ∧ SetI rest (belS ms ns fx z.2.2) z.2.1}) => match iZ with | ⟨⟨gb, bl, k⟩, hk, hS⟩ => [fixB gf ms.length fx, .box gb ⟨intsL bl, 3, rest + 1⟩]) (fun (iZ : {z : Nat × List Int × Nat // z.2.2 ≤ ms.length ∧ SetI rest (belS ms ns fx z.2.2) z.2.1}) => match iZ with | ⟨⟨gb, bl, k⟩, hk, hS⟩ => 0) (fun (iZ : {z : Nat × List Int × Nat // z.2.2 ≤ ms.length ∧ SetI rest (belS ms ns fx z.2.2) z.2.1}) => match iZ with | ⟨⟨gb, bl, k⟩, hk, hS⟩ => ms.length - k) ⟨(g15, bl.set 0 0, 0), Nat.zero_le _, belS_zero' hbl (fun j hj => hbn j (by omega))⟩ (Le.mk hB [0, 1] ⟨rfl, rfl, rfl, rfl, rfl, trivial⟩ rfl rfl (Nat.le_refl _)) ?_
  rintro ⟨⟨gb, bl, k⟩, hk, hS⟩
  show VC _ _ _ _ ⟨[(5, .v (.slice (some ⟨gb, 0, none⟩) (rest + 1) (rest + 1))), (32, avI (k : Int))] ++ [(0, _), (1, _), (31, _)], [fixB gf ms.length fx, .box gb ⟨intsL bl, 3, rest + 1⟩], 0⟩
  simp only at hk hS
  have hbl := hS.len
  refine VC.sr ?_
  refine VO.val rfl rfl (OpV.lss rfl rfl rfl) ?_
  refine VO.nil ?_
  refine VC.seq ?_
  refine VC.cond rfl (fun aH2b => ?_) (fun aH2b => ?_)
  ·have aH2 := aH2b
   try simp only [qqT, qqF, qqN, qqM, qqL, qqE] at aH2
   refine VC.skip ?_
   refine VC.seq ?_
   refine VC.block ?_
   refine VC.sr ?_
   refine VO.mv rfl rfl rfl rfl ?_
   refine VO.ma rfl rfl rfl rfl ?_
   refine VO.nil ?_
   refine VC.sr ?_
   refine VO.mv rfl rfl rfl rfl ?_
   refine VO.val rfl rfl (OpV.add rfl rfl rfl (by unfold fits; omega)) ?_
   refine VO.op rfl (OpE.make rfl hB rfl Tryz.underlying22 (infoOf Tryz.t3 1 (by kernel_rfl) rfl rfl) (by decide) rfl rfl (n := rest + 1) (by omega) (by omega) (by omega) (made_ints _) ?_)
   intro g37
   rw [intsL_len, List.length_replicate]
   refine VO.ma rfl rfl rfl rfl ?_
   refine VO.nil ?_
   refine VC.seq ?_
   refine VC.sr ?_
   refine VO.mv rfl rfl rfl rfl ?_
   refine VO.ma rfl rfl rfl rfl ?_
   refine VO.nil ?_
   refine VC.block ?_
   refine VC.loopK [(0, _), (1, _), (5, _), (7, _), (8, _), (31, _), (32, _)] ⟨rfl, rfl, rfl, rfl, rfl, rfl, rfl, trivial⟩ ({z : List Int × Nat // SetG rest z.2 (alnS ms ns fx k) z.1}) (fun (iZ : {z : List Int × Nat // SetG rest z.2 (alnS ms ns fx k) z.1}) => match iZ with | ⟨⟨al, cur⟩, hG⟩ => [(9, avI (cur : Int))]) (fun (iZ : {z : List Int × Nat // SetG rest z.2 (alnS ms ns fx k) z.1}) => match iZ with | ⟨⟨al, cur⟩, hG⟩ => [fixB gf ms.length fx, .box gb ⟨intsL bl, 3, rest + 1⟩, .box g37 ⟨intsL al, 3, rest + 1⟩]) (fun (iZ : {z : List Int × Nat // SetG rest z.2 (alnS ms ns fx k) z.1}) => match iZ with | ⟨⟨al, cur⟩, hG⟩ => 0) (fun (iZ : {z : List Int × Nat // SetG rest z.2 (alnS ms ns fx k) z.1}) => match iZ with | ⟨⟨al, cur⟩, hG⟩ => cur) ⟨(List.replicate (rest + 1) 0, rest), SetG.start (rep_len _ _)⟩ (Le.mk hB [0, 1, 2] ⟨rfl, rfl, rfl, rfl, rfl, rfl, rfl, rfl, trivial⟩ rfl rfl (Nat.le_refl _)) ?_
   rintro ⟨⟨al, cur⟩, hG⟩
   show VC _ _ _ _ ⟨[(9, avI (cur : Int))] ++ [(0, _), (1, _), (5, _), (7, _), (8, _), (31, _), (32, _)], [fixB gf ms.length fx, .box gb ⟨intsL bl, 3, rest + 1⟩, .box g37 ⟨intsL al, 3, rest + 1⟩], 0⟩
   simp only at hG
   have hcl := hG.lt
   have hcl2 := hG.len
   refine VC.seq ?_
   refine VC.block ?_
   refine VC.sr ?_
   refine VO.mv rfl rfl rfl rfl ?_
   refine VO.mv rfl rfl rfl rfl ?_
   refine VO.mv rfl rfl rfl rfl ?_
   refine VO.mv rfl rfl rfl rfl ?_
   refine VO.mv rfl rfl rfl rfl ?_
   refine VO.val rfl rfl (OpV.nilCheck_at rfl rfl) ?_
   refine VO.val rfl rfl (OpV.fieldAddr_atO 2 rfl Tryz.underlying116 rfl rfl Tryz.sizeOf22 rfl rfl) ?_
   refine VO.val rfl rfl (OpV.load_at rfl hB OutW.no Tryz.isAgg22 rfl rfl) ?_
   refine VO.mv rfl rfl rfl rfl ?_
   refine VO.val rfl rfl (OpV.indexAddr_o rfl Tryz.underlying22 Tryz.sizeOf3 rfl rfl rfl (by omega)) ?_
   refine VO.val rfl rfl (OpV.load_own (i := 0) rfl hB Tryz.isAgg3 rfl rfl (intsT_get (by omega)) (fun h => h)) ?_
   refine VO.mv rfl rfl rfl rfl ?_
   refine VO.val rfl rfl (OpV.bor rfl rfl rfl (Nat.lt_trans (hfx k) (by decide)) (by omega)) ?_
   refine VO.op rfl (OpE.call rfl hB rfl Tryz.call170 rfl (SpecN.spec (bal_cycle hm hn h12 (by omega) (by have := or_lt12 (hfx k) (show cur < 4096 by omega); omega))) ?_)
   rintro _ rfl
   refine VO.val rfl rfl (OpV.indexAddr_o rfl Tryz.underlying22 Tryz.sizeOf3 rfl rfl rfl (by omega)) ?_
   refine VO.op rfl (OpE.store1 (i := 2) rfl hB rfl Tryz.sizeOf3 rfl rfl rfl rfl rfl rfl (by rw [intsL_len]; omega) (intsL_set _ _ _) trivial ?_)
   refine VO.nil ?_
   refine VC.sr ?_
   refine VO.mv rfl rfl rfl rfl ?_
   refine VO.val rfl rfl (OpV.eql rfl rfl rfl) ?_
   refine VO.nil ?_
   refine VC.cond rfl (fun h2b => ?_) (fun h2b => ?_)
   ·have h2 := h2b
    try simp only [qqT, qqF, qqN, qqM, qqL, qqE] at h2
    obtain ⟨al2, hA2, hA⟩ : ∃ al2, al.set cur (alnS ms ns fx k cur) = al2 ∧ SetI rest (alnS ms ns fx k) al2 := ⟨_, rfl, hG.last (by omega) rfl⟩
    refine VC.le _ (Le.pickH (hp := [fixB gf ms.length fx, .box gb ⟨intsL bl, 3, rest + 1⟩, .box g37 ⟨intsL al2, 3, rest + 1⟩]) [0, 1, 2] rfl (by rw [← hA2]; rfl)) ?_
    have hal := hA.len
    refine VC.exit ?_
    refine VC.sr ?_
    refine VO.mv rfl rfl rfl rfl ?_
    refine VO.val rfl rfl (OpV.add rfl rfl rfl (by unfold fits; omega)) ?_
    refine VO.op rfl (OpE.make rfl hB rfl Tryz.underlying22 (infoOf Tryz.t3 1 (by kernel_rfl) rfl rfl) (by decide) rfl rfl (n := rest + 1) (by omega) (by omega) (by omega) (made_ints _) ?_)
    intro g62
    rw [intsL_len, List.length_replicate]
    refine VO.ma rfl rfl rfl rfl ?_
    refine VO.nil ?_
    refine VC.seq ?_
    refine VC.sr ?_
    refine VO.mv rfl rfl rfl rfl ?_
    refine VO.ma rfl rfl rfl rfl ?_
    refine VO.nil ?_
    refine VC.block ?_
    refine VC.loopK [(0, _), (1, _), (5, _), (8, _), (10, _), (31, _), (32, _)] ⟨rfl, rfl, rfl, rfl, rfl, rfl, rfl, trivial⟩ ({z : List Int × Nat // SetG rest z.2 (belS ms ns fx (k + 1)) z.1}) (fun (iZ : {z : List Int × Nat // SetG rest z.2 (belS ms ns fx (k + 1)) z.1}) => match iZ with | ⟨⟨af, s⟩, hF⟩ => [(11, avI (s : Int))]) (fun (iZ : {z : List Int × Nat // SetG rest z.2 (belS ms ns fx (k + 1)) z.1}) => match iZ with | ⟨⟨af, s⟩, hF⟩ => [fixB gf ms.length fx, .box gb ⟨intsL bl, 3, rest + 1⟩, .box g37 ⟨intsL al2, 3, rest + 1⟩, .box g62 ⟨intsL af, 3, rest + 1⟩]) (fun (iZ : {z : List Int × Nat // SetG rest z.2 (belS ms ns fx (k + 1)) z.1}) => match iZ with | ⟨⟨af, s⟩, hF⟩ => 0) (fun (iZ : {z : List Int × Nat // SetG rest z.2 (belS ms ns fx (k + 1)) z.1}) => match iZ with | ⟨⟨af, s⟩, hF⟩ => s) ⟨(List.replicate (rest + 1) 0, rest), SetG.start (rep_len _ _)⟩ (Le.mk hB [0, 1, 2, 3] ⟨rfl, rfl, rfl, rfl, rfl, rfl, rfl, rfl, trivial⟩ rfl rfl (Nat.le_refl _)) ?_
    rintro ⟨⟨af, s⟩, hF⟩
    show VC _ _ _ _ ⟨[(11, avI (s : Int))] ++ [(0, _), (1, _), (5, _), (8, _), (10, _), (31, _), (32, _)], [fixB gf ms.length fx, .box gb ⟨intsL bl, 3, rest + 1⟩, .box g37 ⟨intsL al2, 3, rest + 1⟩, .box g62 ⟨intsL af, 3, rest + 1⟩], 0⟩
    simp only at hF
    have hsl := hF.lt
    have hsl2 := hF.len
    refine VC.seq ?_
    refine VC.block ?_
    refine VC.sr ?_
    refine VO.mv rfl rfl rfl rfl ?_
    refine VO.mv rfl rfl rfl rfl ?_
    refine VO.val rfl rfl (OpV.indexAddr_o rfl Tryz.underlying22 Tryz.sizeOf3 rfl rfl rfl (by omega)) ?_
    refine VO.op rfl (OpE.store1 (i := 3) rfl hB rfl Tryz.sizeOf3 rfl rfl rfl rfl rfl rfl (by rw [intsL_len]; omega) (intsL_set _ _ _) trivial ?_)
    refine VO.nil ?_
    refine VC.seq ?_
    refine VC.sr ?_
    refine VO.mv rfl rfl rfl rfl ?_
    refine VO.ma rfl rfl rfl rfl ?_
    refine VO.nil ?_
    refine VC.block ?_
    refine VC.loopK [(0, _), (1, _), (5, _), (8, _), (10, _), (11, _), (31, _), (32, _)] ⟨rfl, rfl, rfl, rfl, rfl, rfl, rfl, rfl, trivial⟩ ({z : Int × Nat // MinI (mxBA ms ns fx k s) s z.2 z.1}) (fun (iZ : {z : Int × Nat // MinI (mxBA ms ns fx k s) s z.2 z.1}) => match iZ with | ⟨⟨v, c⟩, hV⟩ => [(12, avI (c : Int))]) (fun (iZ : {z : Int × Nat // MinI (mxBA ms ns fx k s) s z.2 z.1}) => match iZ with | ⟨⟨v, c⟩, hV⟩ => [fixB gf ms.length fx, .box gb ⟨intsL bl, 3, rest + 1⟩, .box g37 ⟨intsL al2, 3, rest + 1⟩, .box g62 ⟨intsL (af.set s v), 3, rest + 1⟩]) (fun (iZ : {z : Int × Nat // MinI (mxBA ms ns fx k s) s z.2 z.1}) => match iZ with | ⟨⟨v, c⟩, hV⟩ => 0) (fun (iZ : {z : Int × Nat // MinI (mxBA ms ns fx k s) s z.2 z.1}) => match iZ with | ⟨⟨v, c⟩, hV⟩ => c) ⟨(neverC, s), MinI.start _ _⟩ (Le.mk hB [0, 1, 2, 3] ⟨rfl, rfl, rfl, rfl, rfl, rfl, rfl, rfl, rfl, trivial⟩ rfl rfl (Nat.le_refl _)) ?_
    rintro ⟨⟨v, c⟩, hV⟩
    show VC _ _ _ _ ⟨[(12, avI (c : Int))] ++ [(0, _), (1, _), (5, _), (8, _), (10, _), (11, _), (31, _), (32, _)], [fixB gf ms.length fx, .box gb ⟨intsL bl, 3, rest + 1⟩, .box g37 ⟨intsL al2, 3, rest + 1⟩, .box g62 ⟨intsL (af.set s v), 3, rest + 1⟩], 0⟩
    simp only at hV
    have hvs := hV.sub.le
    have hds : ndiff s c ≤ s := (SubN.diff s c).le
    have hb1 := hS.at_ (ndiff s c) (SubN.of_sub hF.sub)
    have hb2 := hA.at_ c (hV.sub.trans hF.sub)
    refine VC.seq ?_
    refine VC.block ?_
    refine VC.seq ?_
    refine VC.draw (fun j b => j = 19 ∧ b = g62) hB (by kernel_rfl) ?_
    refine VA.take (i := 0) rfl (by kernel_rfl) (by kernel_rfl) (by kernel_rfl) rfl rfl (OpV.move (.inl rfl) rfl) ?_
    refine VA.take (i := 1) rfl (by kernel_rfl) (by kernel_rfl) (by kernel_rfl) rfl rfl (OpV.move (.inl rfl) rfl) ?_
    refine VA.take (i := 2) rfl (by kernel_rfl) (by kernel_rfl) (by kernel_rfl) rfl rfl (OpV.move (.inl rfl) rfl) ?_
    refine VA.take (i := 3) rfl (by kernel_rfl) (by kernel_rfl) (by kernel_rfl) rfl rfl (OpV.move (.inl rfl) rfl) ?_
    refine VA.take (i := 4) rfl (by kernel_rfl) (by kernel_rfl) (by kernel_rfl) rfl rfl (OpV.indexAddr_o rfl Tryz.underlying22 Tryz.sizeOf3 rfl rfl rfl (by omega)) ?_
    refine VA.takeT [5, 17, 19] (i := 5) (by kernel_rfl) (by kernel_rfl) rfl (by kernel_rfl) (by kernel_rfl) (by kernel_rfl) rfl rfl (OpV.load_own (i := 3) rfl hB Tryz.isAgg3 rfl rfl (setInt_get (by omega)) (fun ⟨j, h1, h2, _⟩ => by subst h2; cases h1)) ?_
    refine VA.take (i := 6) rfl (by kernel_rfl) (by kernel_rfl) (by kernel_rfl) rfl rfl (OpV.move (.inl rfl) rfl) ?_
    refine VA.take (i := 7) rfl (by kernel_rfl) (by kernel_rfl) (by kernel_rfl) rfl rfl (OpV.move (.inl rfl) rfl) ?_
    refine VA.take (i := 8) rfl (by kernel_rfl) (by kernel_rfl) (by kernel_rfl) rfl rfl (OpV.move (.inl rfl) rfl) ?_
    refine VA.take (i := 9) rfl (by kernel_rfl) (by kernel_rfl) (by kernel_rfl) rfl rfl (OpV.bdiff (a := s) (b := c) rfl rfl rfl (by omega) (by omega)) ?_
    refine VA.take (i := 10) rfl (by kernel_rfl) (by kernel_rfl) (by kernel_rfl) rfl rfl (OpV.indexAddr_o rfl Tryz.underlying22 Tryz.sizeOf3 rfl rfl rfl (by omega)) ?_
    refine VA.takeT [11, 16, 17, 19] (i := 11) (by kernel_rfl) (by kernel_rfl) rfl (by kernel_rfl) (by kernel_rfl) (by kernel_rfl) rfl rfl (OpV.load_own (i := 1) rfl hB Tryz.isAgg3 rfl rfl (intsL_getV (by omega) hb1) (fun ⟨j, h1, h2, _⟩ => by subst h2; cases h1)) ?_
    refine VA.take (i := 12) rfl (by kernel_rfl) (by kernel_rfl) (by kernel_rfl) rfl rfl (OpV.move (.inl rfl) rfl) ?_
    refine VA.take (i := 13) rfl (by kernel_rfl) (by kernel_rfl) (by kernel_rfl) rfl rfl (OpV.move (.inl rfl) rfl) ?_
    refine VA.take (i := 14) rfl (by kernel_rfl) (by kernel_rfl) (by kernel_rfl) rfl rfl (OpV.indexAddr_o rfl Tryz.underlying22 Tryz.sizeOf3 rfl rfl rfl (by omega)) ?_
    refine VA.takeT [15, 16, 17, 19] (i := 15) (by kernel_rfl) (by kernel_rfl) rfl (by kernel_rfl) (by kernel_rfl) (by kernel_rfl) rfl rfl (OpV.load_own (i := 2) rfl hB Tryz.isAgg3 rfl rfl (intsL_getV (by omega) hb2) (fun ⟨j, h1, h2, _⟩ => by subst h2; cases h1)) ?_
    refine VA.take (i := 16) rfl (by kernel_rfl) (by kernel_rfl) (by kernel_rfl) rfl rfl (OpV.max2 rfl rfl rfl) ?_
    refine VA.take (i := 17) rfl (by kernel_rfl) (by kernel_rfl) (by kernel_rfl) rfl rfl (OpV.min2 rfl rfl rfl) ?_
    refine VA.take (i := 18) rfl (by kernel_rfl) (by kernel_rfl) (by kernel_rfl) rfl rfl (OpV.indexAddr_o rfl Tryz.underlying22 Tryz.sizeOf3 rfl rfl rfl (by omega)) ?_
    refine VA.all (rs := [19]) (by kernel_rfl) (by decide) ?_
    refine ⟨⟨_, rfl, .inl rfl, ?_⟩, trivial⟩
    refine OpE.store1 (i := 3) rfl hB rfl Tryz.sizeOf3 rfl rfl rfl rfl rfl rfl (by rw [intsL_len, List.length_set]; omega) (setInt_set _ _ _ _) (by first | exact ⟨rfl, rfl⟩ | exact .inl ⟨rfl, rfl⟩ | exact .inr ⟨rfl, rfl⟩ | exact ⟨rfl, trivial⟩ | exact .inl ⟨rfl, trivial⟩ | exact .inr ⟨rfl, trivial⟩ | exact ⟨by decide, rfl⟩) ?_
    refine VA.done (by kernel_rfl) ?_
    refine VC.sr ?_
    refine VO.mv rfl rfl rfl rfl ?_
    refine VO.val rfl rfl (OpV.eql rfl rfl rfl) ?_
    refine VO.nil ?_
    refine VC.cond rfl (fun h3b => ?_) (fun h3b => ?_)
    ·have h3 := h3b
     try simp only [qqT, qqF, qqN, qqM, qqL, qqE] at h3
     have hfin : min v (mxBA ms ns fx k s c) = belS ms ns fx (k + 1) s := hV.last (mxBA_nn hMn k s) (by omega)
     refine VC.le _ (Le.pickH (hp := [fixB gf ms.length fx, .box gb ⟨intsL bl, 3, rest + 1⟩, .box g37 ⟨intsL al2, 3, rest + 1⟩, .box g62 ⟨intsL (af.set s (belS ms ns fx (k + 1) s)), 3, rest + 1⟩]) [0, 1, 2, 3] rfl (by rw [← hfin]; rfl)) ?_
     refine VC.exit ?_
     refine VC.sr ?_
     refine VO.mv rfl rfl rfl rfl ?_
     refine VO.val rfl rfl (OpV.eql rfl rfl rfl) ?_
     refine VO.nil ?_
     refine VC.cond rfl (fun h4b => ?_) (fun h4b => ?_)
     ·have h4 := h4b
      try simp only [qqT, qqF, qqN, qqM, qqL, qqE] at h4
      obtain ⟨af2, hF1, hF2⟩ : ∃ af2, af.set s (belS ms ns fx (k + 1) s) = af2 ∧ SetI rest (belS ms ns fx (k + 1)) af2 := ⟨_, rfl, hF.last (by omega) rfl⟩
      refine VC.le _ (Le.pickH (hp := [fixB gf ms.length fx, .box gb ⟨intsL bl, 3, rest + 1⟩, .box g37 ⟨intsL al2, 3, rest + 1⟩, .box g62 ⟨intsL af2, 3, rest + 1⟩]) [0, 1, 2, 3] rfl (by rw [← hF1]; rfl)) ?_
      refine VC.exit ?_
      refine VC.region ?_
      refine VO.mv rfl rfl rfl rfl ?_
      refine VO.ma rfl rfl rfl rfl ?_
      refine VO.nil ?_
      refine VC.region ?_
      refine VO.val rfl rfl (OpV.add rfl rfl rfl (by unfold fits; omega)) ?_
      refine VO.mv rfl rfl rfl rfl ?_
      refine VO.nil ?_
      exact Exists.intro (⟨(g62, af2, k + 1), by show k + 1 ≤ _; omega, hF2⟩) (And.intro (Le.mk hB [0, 3] ⟨rfl, rfl, rfl, rfl, rfl, trivial⟩ rfl rfl (Nat.le_refl _)) (by first | omega | (show _ < _; omega) | (simp only []; omega)))
     ·have h4 := h4b
      try simp only [qqT, qqF, qqN, qqM, qqL, qqE] at h4
      refine VC.skip ?_
      refine VC.region ?_
      refine VO.mv rfl rfl rfl rfl ?_
      refine VO.val rfl rfl (OpV.sub rfl rfl rfl (by unfold fits; omega)) ?_
      refine VO.le _ (Le.recast (t := 65) (y := avI ((s - 1 : Nat) : Int)) rfl (fun w Z u h => by rw [show ((s - 1 : Nat) : Int) = (s : Int) - 1 by omega]; exact h)) ?_
      refine VO.mv rfl rfl rfl rfl ?_
      refine VO.val rfl rfl (OpV.band (a := s - 1) (b := rest) rfl rfl rfl (by omega) (by omega)) ?_
      refine VO.ma rfl rfl rfl rfl ?_
      refine VO.nil ?_
      have hdec : (s - 1) &&& rest < s := sub_dec (by omega)
      exact Exists.intro (⟨(af.set s (belS ms ns fx (k + 1) s), (s - 1) &&& rest), hF.next (by omega) rfl⟩) (And.intro (Le.mk hB [0, 1, 2, 3] ⟨rfl, rfl, rfl, rfl, rfl, rfl, rfl, rfl, trivial⟩ rfl rfl (Nat.le_refl _)) (by first | omega | (show _ < _; omega) | (simp only []; omega)))
    ·have h3 := h3b
     try simp only [qqT, qqF, qqN, qqM, qqL, qqE] at h3
     refine VC.skip ?_
     refine VC.region ?_
     refine VO.mv rfl rfl rfl rfl ?_
     refine VO.val rfl rfl (OpV.sub rfl rfl rfl (by unfold fits; omega)) ?_
     refine VO.le _ (Le.recast (t := 73) (y := avI ((c - 1 : Nat) : Int)) rfl (fun w Z u h => by rw [show ((c - 1 : Nat) : Int) = (c : Int) - 1 by omega]; exact h)) ?_
     refine VO.mv rfl rfl rfl rfl ?_
     refine VO.val rfl rfl (OpV.band (a := c - 1) (b := s) rfl rfl rfl (by omega) (by omega)) ?_
     refine VO.ma rfl rfl rfl rfl ?_
     refine VO.nil ?_
     have hdec : (c - 1) &&& s < c := sub_dec (by omega)
     exact Exists.intro (⟨(min v (mxBA ms ns fx k s c), (c - 1) &&& s), hV.next (mxBA_nn hMn k s c) (by omega)⟩) (And.intro (Le.mk hB [0, 1, 2, 3] ⟨rfl, rfl, rfl, rfl, rfl, rfl, rfl, rfl, rfl, trivial⟩ rfl rfl (Nat.le_refl _)) (by first | omega | (show _ < _; omega) | (simp only []; omega)))
   ·have h2 := h2b
    try simp only [qqT, qqF, qqN, qqM, qqL, qqE] at h2
    refine VC.skip ?_
    refine VC.region ?_
    refine VO.mv rfl rfl rfl rfl ?_
    refine VO.val rfl rfl (OpV.sub rfl rfl rfl (by unfold fits; omega)) ?_
    refine VO.le _ (Le.recast (t := 40) (y := avI ((cur - 1 : Nat) : Int)) rfl (fun w Z u h => by rw [show ((cur - 1 : Nat) : Int) = (cur : Int) - 1 by omega]; exact h)) ?_
    refine VO.mv rfl rfl rfl rfl ?_
    refine VO.val rfl rfl (OpV.band (a := cur - 1) (b := rest) rfl rfl rfl (by omega) (by omega)) ?_
    refine VO.ma rfl rfl rfl rfl ?_
    refine VO.nil ?_
    have hdec : (cur - 1) &&& rest < cur := sub_dec (by omega)
    exact Exists.intro (⟨(al.set cur (alnS ms ns fx k cur), (cur - 1) &&& rest), hG.next (by omega) rfl⟩) (And.intro (Le.mk hB [0, 1, 2] ⟨rfl, rfl, rfl, rfl, rfl, rfl, rfl, rfl, trivial⟩ rfl rfl (Nat.le_refl _)) (by first | omega | (show _ < _; omega) | (simp only []; omega)))
  ·have aH2 := aH2b
   try simp only [qqT, qqF, qqN, qqM, qqL, qqE] at aH2
   obtain rfl : k = ms.length := by omega
   have hlast := hS.at_ rest (SubN.refl rest)
   refine VC.exit ?_
   refine VC.sr ?_
   refine VO.mv rfl rfl rfl rfl ?_
   refine VO.mv rfl rfl rfl rfl ?_
   refine VO.val rfl rfl (OpV.indexAddr_o rfl Tryz.underlying22 Tryz.sizeOf3 rfl rfl rfl (by omega)) ?_
   refine VO.val rfl rfl (OpV.load_own (i := 1) rfl hB Tryz.isAgg3 rfl rfl (intsL_getV (by omega) hlast) (fun h => h)) ?_
   refine VO.ma rfl rfl rfl rfl ?_
   refine VO.nil ?_
   refine VC.le _ (Le.pickH [0] rfl rfl) ?_
   refine VC.ret ?_
   exact Exists.intro _ (And.intro (RetV.one Tryz.results72 (ResV.tmp rfl)) (⟨rfl, rfl⟩))
end Go.Proofs.YtemnnmohdpabhaaGreatDoor
namespace Go.Proofs.YtemnnmohdpabhaaGreatDoor
open Go.RowKit
set_option linter.unusedVariables false
set_option linter.unusedSimpArgs false
section
variable {ms : List Mach} {ns : List NeedS} {pl G : List Int} {B : Int} {q k : Nat}
theorem bal_no (hq : q < ns.length) (hB : bstV ms ns (ns.length - q) pl = B) (hlt : B < neverC) (hn : ∀ j, j < ms.length → bstV ms ns (ns.length - q - 1) (pl ++ [(j : Int)]) ≠ B) : False := by
 obtain ⟨d, hd⟩ : ∃ d, ns.length - q = d + 1 := ⟨ns.length - q - 1, by omega⟩
 rw [hd] at hB hn
 exact grd_some (by rw [hB]; exact hlt) fun j hj => by rw [hB]; exact hn j hj
theorem bal_step (hq : q < ns.length) (hk : k < ms.length) (hB : bstV ms ns (ns.length - q) pl = B) (hG : grd ms ns (ns.length - q) pl = G) (h5 : bstV ms ns (ns.length - q - 1) (pl ++ [(k : Int)]) = B) (hn : ∀ j, j < k → bstV ms ns (ns.length - q - 1) (pl ++ [(j : Int)]) ≠ B) : bstV ms ns (ns.length - (q + 1)) (pl ++ [(k : Int)]) = B ∧ grd ms ns (ns.length - (q + 1)) (pl ++ [(k : Int)]) = G := by
 obtain ⟨d, hd⟩ : ∃ d, ns.length - q = d + 1 := ⟨ns.length - q - 1, by omega⟩
 have e : ns.length - (q + 1) = d := by omega
 rw [hd] at hB hG h5 hn
 rw [e]
 refine ⟨h5, ?_⟩
 rw [← hG, grd_next hk (by rw [hB]; exact h5) fun j hj => by rw [hB]; exact hn j hj]
theorem bel_next (hM : MnOk ms ns) (hl : pl.length = q) (hq : q < ns.length) : belS ms ns (mskP (pl ++ [(k : Int)])) ms.length (rst ns.length (q + 1)) = bstV ms ns (ns.length - q - 1) (pl ++ [(k : Int)]) := by
 have := belS_bst hM (pl := pl ++ [(k : Int)]) (d := ns.length - q - 1) (by simp; omega)
 rw [List.length_append, hl] at this
 exact this
theorem bel_first (hM : MnOk ms ns) : belS ms ns (mskP []) ms.length (rst ns.length 0) = bstV ms ns ns.length [] := belS_bst hM (pl := []) (d := ns.length) (by simp)
theorem pow12 {n : Nat} (h : n ≤ 12) : 1 ≤ 2 ^ n ∧ 2 ^ n ≤ 4096 := ⟨Nat.one_le_two_pow, show 2 ^ n ≤ 2 ^ 12 from Nat.pow_le_pow_right (by decide) h⟩
theorem msk12 (h : pl.length ≤ 12) (k : Nat) : mskP pl k < 4096 := Nat.lt_of_lt_of_le (mskP_lt pl k) (pow12 h).2
theorem rst12 {n : Nat} (h : n ≤ 12) (i : Nat) : rst n i < 4096 := Nat.lt_of_lt_of_le (rst_lt n i) (pow12 h).2
theorem bal_1 (h : faultF ms ns ≠ 0) : balE ms ns = faultF ms ns ∧ balOk ms ns = false ∧ balL ms ns = [] ∧ balV ms ns = 0 := by
 have e : balE ms ns = faultF ms ns := by rw [balE, if_pos h]
 have e2 : balOk ms ns = false := by rw [balOk, e, decide_eq_false h]; rfl
 exact ⟨e, e2, by rw [balL, e2]; rfl, by rw [balV, e2]; rfl⟩
theorem bal_2 (h : faultF ms ns = 0) (h2 : 12 < ns.length) : balE ms ns = 2 ∧ balOk ms ns = false ∧ balL ms ns = [] ∧ balV ms ns = 0 := by
 have e : balE ms ns = 2 := by rw [balE, if_neg (by omega), if_pos h2]
 have e2 : balOk ms ns = false := by rw [balOk, e]; rfl
 exact ⟨e, e2, by rw [balL, e2]; rfl, by rw [balV, e2]; rfl⟩
theorem bal_3 (h : faultF ms ns = 0) (h2 : ns.length ≤ 12) (h3 : ¬ bstV ms ns ns.length [] < neverC) : balE ms ns = 0 ∧ balOk ms ns = false ∧ balL ms ns = [] ∧ balV ms ns = 0 := by
 have e : balE ms ns = 0 := by rw [balE, if_neg (by omega), if_neg (by omega)]
 have e2 : balOk ms ns = false := by rw [balOk, e, decide_eq_false h3]; rfl
 exact ⟨e, e2, by rw [balL, e2]; rfl, by rw [balV, e2]; rfl⟩
theorem bal_4 (h : faultF ms ns = 0) (h2 : ns.length ≤ 12) (h3 : bstV ms ns ns.length [] < neverC) : balE ms ns = 0 ∧ balOk ms ns = true ∧ balL ms ns = grd ms ns ns.length [] ∧ balV ms ns = bstV ms ns ns.length [] := by
 have e : balE ms ns = 0 := by rw [balE, if_neg (by omega), if_neg (by omega)]
 have e2 : balOk ms ns = true := by rw [balOk, e, decide_eq_true h3]; rfl
 exact ⟨e, e2, by rw [balL, e2]; rfl, by rw [balV, e2]; rfl⟩
end
theorem mskT_yes {pl : List Int} {k q n : Nat} (hl : pl.length = q) : (tabI n fun j => ((mskP pl j : Nat) : Int)).set k ((mskP pl k ||| 2 ^ q : Nat) : Int) = tabI n fun j => ((mskP (pl ++ [(k : Int)]) j : Nat) : Int) :=
 tabI_set' (by rw [mskP_snoc, if_pos rfl, hl]) fun j _ hne => by rw [mskP_snoc, if_neg hne]
theorem mskT_no {pl : List Int} {k q n : Nat} (hl : pl.length = q) : (tabI n fun j => ((mskP (pl ++ [(k : Int)]) j : Nat) : Int)).set k ((ndiff (mskP (pl ++ [(k : Int)]) k) (2 ^ q) : Nat) : Int) = tabI n fun j => ((mskP pl j : Nat) : Int) :=
 tabI_set' (by rw [mskP_snoc, if_pos rfl, ← hl, mskP_back]) fun j _ hne => by rw [mskP_snoc, if_neg hne]
set_option maxRecDepth 100000 in
set_option maxHeartbeats 16000000 in
theorem line_Balance {ms : List Mach} {ns : List NeedS} (hm : SmallM ms) (hn : SmallN ns) :
  Spec Tryz.prog 12 [avL ms, avL ns] (fun y => y = .tup [avInts (balL ms ns), avI (balV ms ns), avB (balOk ms ns), avI (balE ms ns)]) := by
 refine Spec.of_VC Tryz.func12 rfl Tryz.ntmps12 (Nle rfl) fun w A hB => ?_
 have hnew : True := trivial
 refine VC.sr ?_
 refine VO.ma rfl rfl rfl rfl ?_
 refine VO.ma rfl rfl rfl rfl ?_
 refine VO.ma rfl rfl rfl rfl ?_
 refine VO.ma rfl rfl rfl rfl ?_
 refine VO.nil ?_
 refine VC.seq ?_
 refine VC.sr ?_
 refine VO.mv rfl rfl rfl rfl ?_
 refine VO.mv rfl rfl rfl rfl ?_
 refine VO.op rfl (OpE.call rfl hB rfl Tryz.call71 rfl (SpecN.spec (line_fault hm.l hm.k hm.c hm.s hn.l hn.k)) ?_)
 rintro _ rfl
 refine VO.ma rfl rfl rfl rfl ?_
 refine VO.nil ?_
 refine VC.sr ?_
 refine VO.mv rfl rfl rfl rfl ?_
 refine VO.val rfl rfl (OpV.neq rfl rfl rfl) ?_
 refine VO.nil ?_
 refine VC.cond rfl (fun h0b => ?_) (fun h0b => ?_)
 ·have h0 := h0b
  try simp only [qqT, qqF, qqN, qqM, qqL, qqE] at h0
  refine VC.sr ?_
  refine VO.mv rfl rfl rfl rfl ?_
  refine VO.ma rfl rfl rfl rfl ?_
  refine VO.ma rfl rfl rfl rfl ?_
  refine VO.ma rfl rfl rfl rfl ?_
  refine VO.ma rfl rfl rfl rfl ?_
  refine VO.nil ?_
  refine VC.le _ (Le.recast (t := 4) (y := avInts []) rfl (fun w Z u h => by rw [h.eq_v]; exact .nil _ _)) ?_
  refine VC.ret ?_
  exact Exists.intro _ (And.intro (RetV.four Tryz.results12 (ResV.tmp rfl) (ResV.tmp rfl) (ResV.tmp rfl) (ResV.tmp rfl)) (by rw [(bal_1 h0).1, (bal_1 h0).2.1, (bal_1 h0).2.2.1, (bal_1 h0).2.2.2]))
 ·have h0 := h0b
  try simp only [qqT, qqF, qqN, qqM, qqL, qqE] at h0
  have hf0 : faultF ms ns = 0 := by omega
  obtain ⟨hmf, hnf⟩ := faultF_0 hf0
  have hM := MnOk.mk' hmf hnf
  have hlen := machF_len hmf
  refine VC.skip ?_
  refine VC.seq ?_
  refine VC.sr ?_
  refine VO.mv rfl rfl rfl rfl ?_
  refine VO.val rfl rfl (OpV.len_im rfl Tryz.underlying28 rfl) ?_
  refine VO.val rfl rfl (OpV.gtr rfl rfl rfl) ?_
  refine VO.nil ?_
  refine VC.cond rfl (fun h1b => ?_) (fun h1b => ?_)
  ·have h1 := h1b
   try simp only [qqT, qqF, qqN, qqM, qqL, qqE] at h1
   refine VC.sr ?_
   refine VO.ma rfl rfl rfl rfl ?_
   refine VO.ma rfl rfl rfl rfl ?_
   refine VO.ma rfl rfl rfl rfl ?_
   refine VO.ma rfl rfl rfl rfl ?_
   refine VO.nil ?_
   refine VC.le _ (Le.recast (t := 4) (y := avInts []) rfl (fun w Z u h => by rw [h.eq_v]; exact .nil _ _)) ?_
   refine VC.ret ?_
   exact Exists.intro _ (And.intro (RetV.four Tryz.results12 (ResV.tmp rfl) (ResV.tmp rfl) (ResV.tmp rfl) (ResV.tmp rfl)) (by rw [(bal_2 hf0 (by omega)).1, (bal_2 hf0 (by omega)).2.1, (bal_2 hf0 (by omega)).2.2.1, (bal_2 hf0 (by omega)).2.2.2]))
  ·have h1 := h1b
   try simp only [qqT, qqF, qqN, qqM, qqL, qqE] at h1
   have h12 : ns.length ≤ 12 := by omega
   have hpw := pow12 h12
   refine VC.skip ?_
   refine VC.sr ?_
   refine VO.mv rfl rfl rfl rfl ?_
   refine VO.mv rfl rfl rfl rfl ?_
   refine VO.mv rfl rfl rfl rfl ?_
   refine VO.val rfl rfl (OpV.len_im rfl Tryz.underlying26 rfl) ?_
   refine VO.op rfl (OpE.make rfl hB rfl Tryz.underlying22 (infoOf Tryz.t3 1 (by kernel_rfl) rfl rfl) (by decide) rfl rfl (n := ms.length) rfl rfl (by omega) (made_ints _) ?_)
   intro g28
   rw [intsL_len, List.length_replicate]
   refine VO.val rfl rfl (OpV.build (pls := #[(0, 1), (1, 1), (2, 1)]) rfl Tryz.zeroValue116 Tryz.underlying116 (fun w => by kernel_rfl) rfl rfl) ?_
   refine VO.op rfl (OpE.box rfl hB rfl rfl rfl ?_)
   intro g30
   refine VO.ma rfl rfl rfl rfl ?_
   refine VO.nil ?_
   refine VC.seq ?_
   refine VC.le _ (Le.freezeAt (t := 9) (i := 1) (m := 3) (f := balC ms ns (.slice (some ⟨g28, 0, none⟩) ms.length ms.length)) rfl rfl (Nle rfl) (fun w Z u h => h.at_congr (g := balC ms ns (.slice (some ⟨g28, 0, none⟩) ms.length ms.length)) (fun j hj => by rcases j with _ | _ | _ | j <;> first | rfl | omega)) hnew hB) ?_
   refine VC.le _ (Le.pickH (hp := [fixB g28 ms.length (mskP [])]) [0] rfl (by rw [tabI_rep]; rfl)) ?_
   refine VC.region ?_
   refine VO.mv rfl rfl rfl rfl ?_
   refine VO.val rfl rfl (OpV.len_im rfl Tryz.underlying28 rfl) ?_
   refine VO.val rfl rfl (OpV.bshl1 rfl rfl rfl (by omega)) ?_
   refine VO.val rfl rfl (OpV.sub rfl rfl rfl (by unfold fits; omega)) ?_
   refine VO.le _ (Le.recast (t := 34) (y := avI ((rst ns.length 0 : Nat) : Int)) rfl (fun w Z u h => by rw [rst_zero, show ((2 ^ ns.length - 1 : Nat) : Int) = ((2 ^ ns.length : Nat) : Int) - 1 by omega]; exact h)) ?_
   refine VO.ma rfl rfl rfl rfl ?_
   refine VO.nil ?_
   refine VC.sr ?_
   refine VO.mv rfl rfl rfl rfl ?_
   refine VO.mv rfl rfl rfl rfl ?_
   refine VO.op rfl (OpE.callH0 rfl hB rfl Tryz.call72 rfl rfl (bal_longest hmf hnf h12 (rst12 h12 0) (msk12 (by simp))) (List.Perm.refl _) (fun _ _ => trivial) ?_)
   rintro _ _ ⟨rfl, rfl⟩
   obtain ⟨B, hBv⟩ : ∃ B, bstV ms ns ns.length [] = B := ⟨_, rfl⟩
   refine VO.le _ (Le.recast (t := 37) (y := avI B) rfl (fun w Z u h => by rw [← hBv, ← bel_first hM]; exact h)) ?_
   have hBi := bstV_in hM ns.length []
   rw [hBv] at hBi
   refine VO.ma rfl rfl rfl rfl ?_
   refine VO.nil ?_
   refine VC.seq ?_
   refine VC.sr ?_
   refine VO.mv rfl rfl rfl rfl ?_
   refine VO.val rfl rfl (OpV.eql rfl rfl rfl) ?_
   refine VO.nil ?_
   refine VC.cond rfl (fun h2b => ?_) (fun h2b => ?_)
   ·have h2 := h2b
    try simp only [qqT, qqF, qqN, qqM, qqL, qqE] at h2
    have h3 : ¬ bstV ms ns ns.length [] < neverC := by rw [hBv]; simp only [neverC]; omega
    refine VC.sr ?_
    refine VO.ma rfl rfl rfl rfl ?_
    refine VO.ma rfl rfl rfl rfl ?_
    refine VO.ma rfl rfl rfl rfl ?_
    refine VO.ma rfl rfl rfl rfl ?_
    refine VO.nil ?_
    refine VC.le _ (Le.recast (t := 4) (y := avInts []) rfl (fun w Z u h => by rw [h.eq_v]; exact .nil _ _)) ?_
    refine VC.ret ?_
    exact Exists.intro _ (And.intro (RetV.four Tryz.results12 (ResV.tmp rfl) (ResV.tmp rfl) (ResV.tmp rfl) (ResV.tmp rfl)) (by rw [(bal_3 hf0 h12 h3).1, (bal_3 hf0 h12 h3).2.1, (bal_3 hf0 h12 h3).2.2.1, (bal_3 hf0 h12 h3).2.2.2]))
   ·have h2 := h2b
    try simp only [qqT, qqF, qqN, qqM, qqL, qqE] at h2
    have hlt : B < neverC := by simp only [neverC] at hBi ⊢; omega
    refine VC.skip ?_
    refine VC.sr ?_
    refine VO.ma rfl rfl rfl rfl ?_
    refine VO.nil ?_
    refine VC.seq ?_
    refine VC.sr ?_
    refine VO.mv rfl rfl rfl rfl ?_
    refine VO.val rfl rfl (OpV.len_im rfl Tryz.underlying28 rfl) ?_
    refine VO.mv rfl rfl rfl rfl ?_
    refine VO.nil ?_
    refine VC.block ?_
    refine VC.le _ (Le.nilRow 1 3) ?_
    refine VC.loopK [(0, _), (9, _), (11, _), (41, _)] ⟨rfl, rfl, rfl, rfl, trivial⟩ ({z : Value × List Int × Nat // z.2.2 ≤ ns.length ∧ z.2.1.length = z.2.2 ∧ bstV ms ns (ns.length - z.2.2) z.2.1 = B ∧ grd ms ns (ns.length - z.2.2) z.2.1 = grd ms ns ns.length []}) (fun (iZ : {z : Value × List Int × Nat // z.2.2 ≤ ns.length ∧ z.2.1.length = z.2.2 ∧ bstV ms ns (ns.length - z.2.2) z.2.1 = B ∧ grd ms ns (ns.length - z.2.2) z.2.1 = grd ms ns ns.length []}) => match iZ with | ⟨⟨u, pl, q⟩, hq, hl, hpb, hpg⟩ => [(10, avI ((rst ns.length q : Nat) : Int)), (12, .v u), (42, avI (q : Int))]) (fun (iZ : {z : Value × List Int × Nat // z.2.2 ≤ ns.length ∧ z.2.1.length = z.2.2 ∧ bstV ms ns (ns.length - z.2.2) z.2.1 = B ∧ grd ms ns (ns.length - z.2.2) z.2.1 = grd ms ns ns.length []}) => match iZ with | ⟨⟨u, pl, q⟩, hq, hl, hpb, hpg⟩ => [fixB g28 ms.length (mskP pl), .row u pl.length 1 (intsL pl) 3]) (fun (iZ : {z : Value × List Int × Nat // z.2.2 ≤ ns.length ∧ z.2.1.length = z.2.2 ∧ bstV ms ns (ns.length - z.2.2) z.2.1 = B ∧ grd ms ns (ns.length - z.2.2) z.2.1 = grd ms ns ns.length []}) => match iZ with | ⟨⟨u, pl, q⟩, hq, hl, hpb, hpg⟩ => 0) (fun (iZ : {z : Value × List Int × Nat // z.2.2 ≤ ns.length ∧ z.2.1.length = z.2.2 ∧ bstV ms ns (ns.length - z.2.2) z.2.1 = B ∧ grd ms ns (ns.length - z.2.2) z.2.1 = grd ms ns ns.length []}) => match iZ with | ⟨⟨u, pl, q⟩, hq, hl, hpb, hpg⟩ => ns.length - q) ⟨(.slice none 0 0, [], 0), Nat.zero_le _, rfl, hBv, rfl⟩ (Le.mk hB [0, 1] ⟨rfl, rfl, rfl, rfl, rfl, rfl, rfl, trivial⟩ rfl rfl (Nat.le_refl _)) ?_
    rintro ⟨⟨u, pl, q⟩, hq, hl, hpb, hpg⟩
    show VC _ _ _ _ ⟨[(10, avI ((rst ns.length q : Nat) : Int)), (12, .v u), (42, avI (q : Int))] ++ [(0, _), (9, _), (11, _), (41, _)], [fixB g28 ms.length (mskP pl), .row u pl.length 1 (intsL pl) 3], 0⟩
    simp only at hq hl hpb hpg
    refine VC.sr ?_
    refine VO.val rfl rfl (OpV.lss rfl rfl rfl) ?_
    refine VO.nil ?_
    refine VC.seq ?_
    refine VC.cond rfl (fun aH1b => ?_) (fun aH1b => ?_)
    ·have aH1 := aH1b
     try simp only [qqT, qqF, qqN, qqM, qqL, qqE] at aH1
     refine VC.skip ?_
     refine VC.seq ?_
     refine VC.block ?_
     refine VC.sr ?_
     refine VO.mv rfl rfl rfl rfl ?_
     refine VO.ma rfl rfl rfl rfl ?_
     refine VO.nil ?_
     refine VC.sr ?_
     refine VO.mv rfl rfl rfl rfl ?_
     refine VO.mv rfl rfl rfl rfl ?_
     refine VO.val rfl rfl (OpV.bshl1 rfl rfl rfl (by omega)) ?_
     refine VO.val rfl rfl (OpV.bdiff (a := rst ns.length q) (b := 2 ^ q) rfl rfl rfl (by have := rst12 h12 q; omega) (by have := (pow12 (n := q) (by omega)).2; omega)) ?_
     refine VO.le _ (Le.recast (t := 48) (y := avI ((rst ns.length (q + 1) : Nat) : Int)) rfl (fun w Z u h => by rw [← rst_succ]; exact h)) ?_
     refine VO.ma rfl rfl rfl rfl ?_
     refine VO.nil ?_
     refine VC.sr ?_
     refine VO.mv rfl rfl rfl rfl ?_
     refine VO.val rfl rfl (OpV.len_im rfl Tryz.underlying26 rfl) ?_
     refine VO.mv rfl rfl rfl rfl ?_
     refine VO.nil ?_
     refine VC.block ?_
     have hq1 : q < ns.length := by omega
     have hq2 := (pow12 (n := q) (by omega)).2
     refine VC.loopK [(0, _), (9, _), (10, _), (11, _), (13, _), (41, _), (42, _), (50, _)] ⟨rfl, rfl, rfl, rfl, rfl, rfl, rfl, rfl, trivial⟩ ({k : Nat // k ≤ ms.length ∧ ∀ j, j < k → bstV ms ns (ns.length - q - 1) (pl ++ [(j : Int)]) ≠ B}) (fun (iZ : {k : Nat // k ≤ ms.length ∧ ∀ j, j < k → bstV ms ns (ns.length - q - 1) (pl ++ [(j : Int)]) ≠ B}) => match iZ with | ⟨k, hk, hns⟩ => [(12, .v u), (51, avI (k : Int))]) (fun (iZ : {k : Nat // k ≤ ms.length ∧ ∀ j, j < k → bstV ms ns (ns.length - q - 1) (pl ++ [(j : Int)]) ≠ B}) => match iZ with | ⟨k, hk, hns⟩ => [fixB g28 ms.length (mskP pl), .row u pl.length 1 (intsL pl) 3]) (fun (iZ : {k : Nat // k ≤ ms.length ∧ ∀ j, j < k → bstV ms ns (ns.length - q - 1) (pl ++ [(j : Int)]) ≠ B}) => match iZ with | ⟨k, hk, hns⟩ => 0) (fun (iZ : {k : Nat // k ≤ ms.length ∧ ∀ j, j < k → bstV ms ns (ns.length - q - 1) (pl ++ [(j : Int)]) ≠ B}) => match iZ with | ⟨k, hk, hns⟩ => ms.length - k) ⟨0, Nat.zero_le _, fun j hj => absurd hj (Nat.not_lt_zero j)⟩ (Le.mk hB [0, 1] ⟨rfl, rfl, rfl, rfl, rfl, rfl, rfl, rfl, rfl, rfl, trivial⟩ rfl rfl (Nat.le_refl _)) ?_
     rintro ⟨k, hk, hns⟩
     show VC _ _ _ _ ⟨[(12, .v u), (51, avI (k : Int))] ++ [(0, _), (9, _), (10, _), (11, _), (13, _), (41, _), (42, _), (50, _)], [fixB g28 ms.length (mskP pl), .row u pl.length 1 (intsL pl) 3], 0⟩
     refine VC.sr ?_
     refine VO.val rfl rfl (OpV.lss rfl rfl rfl) ?_
     refine VO.nil ?_
     refine VC.seq ?_
     refine VC.cond rfl (fun h4b => ?_) (fun h4b => ?_)
     ·have h4 := h4b
      try simp only [qqT, qqF, qqN, qqM, qqL, qqE] at h4
      refine VC.skip ?_
      refine VC.seq ?_
      refine VC.block ?_
      refine VC.sr ?_
      refine VO.mv rfl rfl rfl rfl ?_
      refine VO.ma rfl rfl rfl rfl ?_
      refine VO.nil ?_
      refine VC.seq ?_
      refine VC.draw (fun j b => j = 11 ∧ b = g28) hB (by kernel_rfl) ?_
      refine VA.take (i := 0) rfl (by kernel_rfl) (by kernel_rfl) (by kernel_rfl) rfl rfl (OpV.move (.inl rfl) rfl) ?_
      refine VA.take (i := 1) rfl (by kernel_rfl) (by kernel_rfl) (by kernel_rfl) rfl rfl (OpV.nilCheck_at rfl rfl) ?_
      refine VA.take (i := 2) rfl (by kernel_rfl) (by kernel_rfl) (by kernel_rfl) rfl rfl (OpV.fieldAddr_atO 2 rfl Tryz.underlying116 rfl rfl Tryz.sizeOf22 rfl rfl) ?_
      refine VA.take (i := 3) rfl (by kernel_rfl) (by kernel_rfl) (by kernel_rfl) rfl rfl (OpV.load_at rfl hB (by first | exact OutW.wi1 (k := 0) rfl rfl | exact OutW.wi1 (k := 1) rfl rfl) Tryz.isAgg22 rfl rfl) ?_
      refine VA.take (i := 4) rfl (by kernel_rfl) (by kernel_rfl) (by kernel_rfl) rfl rfl (OpV.move (.inl rfl) rfl) ?_
      refine VA.take (i := 5) rfl (by kernel_rfl) (by kernel_rfl) (by kernel_rfl) rfl rfl (OpV.indexAddr_o rfl Tryz.underlying22 Tryz.sizeOf3 rfl rfl rfl (by omega)) ?_
      refine VA.takeT [6, 9, 11] (i := 6) (by kernel_rfl) (by kernel_rfl) rfl (by kernel_rfl) (by kernel_rfl) (by kernel_rfl) rfl rfl (OpV.load_own (i := 0) rfl hB Tryz.isAgg3 rfl rfl (intsT_get (by omega)) (fun ⟨j, h1, h2, _⟩ => by subst h2; cases h1)) ?_
      refine VA.take (i := 7) rfl (by kernel_rfl) (by kernel_rfl) (by kernel_rfl) rfl rfl (OpV.move (.inl rfl) rfl) ?_
      refine VA.take (i := 8) rfl (by kernel_rfl) (by kernel_rfl) (by kernel_rfl) rfl rfl (OpV.bshl1 rfl rfl rfl (by omega)) ?_
      refine VA.take (i := 9) rfl (by kernel_rfl) (by kernel_rfl) (by kernel_rfl) rfl rfl (OpV.bor (a := mskP pl k) (b := 2 ^ q) rfl rfl rfl (by have := msk12 (pl := pl) (by omega) k; omega) (by omega)) ?_
      refine VA.take (i := 10) rfl (by kernel_rfl) (by kernel_rfl) (by kernel_rfl) rfl rfl (OpV.indexAddr_o rfl Tryz.underlying22 Tryz.sizeOf3 rfl rfl rfl (by omega)) ?_
      refine VA.all (rs := [11]) (by kernel_rfl) (by decide) ?_
      refine ⟨⟨_, rfl, .inl rfl, ?_⟩, trivial⟩
      refine OpE.store1 (i := 0) rfl hB rfl Tryz.sizeOf3 rfl rfl rfl rfl rfl rfl (by rw [intsL_len, tabI_len]; omega) ((intsL_set _ _ _).trans (congrArg intsL (mskT_yes hl))) (by first | exact ⟨rfl, rfl⟩ | exact .inl ⟨rfl, rfl⟩ | exact .inr ⟨rfl, rfl⟩ | exact ⟨rfl, trivial⟩ | exact .inl ⟨rfl, trivial⟩ | exact .inr ⟨rfl, trivial⟩ | exact ⟨by decide, rfl⟩) ?_
      refine VA.done (by kernel_rfl) ?_
      refine VC.seq ?_
      refine VC.sr ?_
      refine VO.mv rfl rfl rfl rfl ?_
      refine VO.mv rfl rfl rfl rfl ?_
      refine VO.op rfl (OpE.callH (rest := [_]) rfl hB rfl Tryz.call72 rfl rfl (bal_longest hmf hnf h12 (rst12 h12 (q + 1)) (msk12 (pl := pl ++ [(k : Int)]) (by simp; omega))) (List.Perm.refl _) (fun _ _ => trivial) ?_)
      rintro _ _ ⟨rfl, rfl⟩
      refine VO.le _ (Le.recast (t := 67) (y := avI (bstV ms ns (ns.length - q - 1) (pl ++ [(k : Int)]))) rfl (fun w Z u h => by rw [← bel_next hM hl hq1]; exact h)) ?_
      refine VO.mv rfl rfl rfl rfl ?_
      refine VO.val rfl rfl (OpV.eql rfl rfl rfl) ?_
      refine VO.nil ?_
      refine VC.cond rfl (fun h5b => ?_) (fun h5b => ?_)
      ·have h5 := h5b
       try simp only [qqT, qqF, qqN, qqM, qqL, qqE] at h5
       refine VC.sr ?_
       refine VO.mv rfl rfl rfl rfl ?_
       refine VO.mv rfl rfl rfl rfl ?_
       refine VO.op rfl (OpE.buildSlice (zc := #[.int .i64 0]) rfl hB rfl Tryz.underlying22 Tryz.sizeOf3 Tryz.zeroValue3 (by decide) (by decide) (by kernel_rfl) rfl rfl ?_)
       refine VO.op rfl (OpE.append1 (i := 1) rfl hB rfl Tryz.underlying22 (infoOf Tryz.t3 1 (by kernel_rfl) rfl rfl) rfl (by decide) (by decide) rfl rfl rfl rfl (intsL_snoc _ _) (by omega) (fun _ _ => trivial) ?_)
       intro u73
       refine VO.ma rfl rfl rfl rfl ?_
       refine VO.nil ?_
       refine VC.exit ?_
       refine VC.region ?_
       refine VO.val rfl rfl (OpV.add rfl rfl rfl (by unfold fits; omega)) ?_
       refine VO.mv rfl rfl rfl rfl ?_
       refine VO.nil ?_
       exact Exists.intro (⟨(u73, pl ++ [(k : Int)], q + 1), by show q + 1 ≤ _; omega, by show (pl ++ [_]).length = q + 1; simp [hl], (bal_step (by omega) (by omega) hpb hpg (by simpa using h5) hns).1, (bal_step (by omega) (by omega) hpb hpg (by simpa using h5) hns).2⟩) (And.intro (Le.mk hB [0, 1] ⟨rfl, rfl, rfl, rfl, rfl, rfl, rfl, trivial⟩ rfl (by dsimp only; rw [List.length_append]; rfl) (Nat.le_refl _)) (by first | omega | (show _ < _; omega) | (simp only []; omega)))
      ·have h5 := h5b
       try simp only [qqT, qqF, qqN, qqM, qqL, qqE] at h5
       refine VC.skip ?_
       refine VC.draw (fun j b => j = 11 ∧ b = g28) hB (by kernel_rfl) ?_
       refine VA.take (i := 0) rfl (by kernel_rfl) (by kernel_rfl) (by kernel_rfl) rfl rfl (OpV.move (.inl rfl) rfl) ?_
       refine VA.take (i := 1) rfl (by kernel_rfl) (by kernel_rfl) (by kernel_rfl) rfl rfl (OpV.nilCheck_at rfl rfl) ?_
       refine VA.take (i := 2) rfl (by kernel_rfl) (by kernel_rfl) (by kernel_rfl) rfl rfl (OpV.fieldAddr_atO 2 rfl Tryz.underlying116 rfl rfl Tryz.sizeOf22 rfl rfl) ?_
       refine VA.take (i := 3) rfl (by kernel_rfl) (by kernel_rfl) (by kernel_rfl) rfl rfl (OpV.load_at rfl hB (by first | exact OutW.wi1 (k := 0) rfl rfl | exact OutW.wi1 (k := 1) rfl rfl) Tryz.isAgg22 rfl rfl) ?_
       refine VA.take (i := 4) rfl (by kernel_rfl) (by kernel_rfl) (by kernel_rfl) rfl rfl (OpV.move (.inl rfl) rfl) ?_
       refine VA.take (i := 5) rfl (by kernel_rfl) (by kernel_rfl) (by kernel_rfl) rfl rfl (OpV.indexAddr_o rfl Tryz.underlying22 Tryz.sizeOf3 rfl rfl rfl (by omega)) ?_
       refine VA.takeT [6, 9, 11] (i := 6) (by kernel_rfl) (by kernel_rfl) rfl (by kernel_rfl) (by kernel_rfl) (by kernel_rfl) rfl rfl (OpV.load_own (i := 0) rfl hB Tryz.isAgg3 rfl rfl (intsT_get (by omega)) (fun ⟨j, h1, h2, _⟩ => by subst h2; cases h1)) ?_
       refine VA.take (i := 7) rfl (by kernel_rfl) (by kernel_rfl) (by kernel_rfl) rfl rfl (OpV.move (.inl rfl) rfl) ?_
       refine VA.take (i := 8) rfl (by kernel_rfl) (by kernel_rfl) (by kernel_rfl) rfl rfl (OpV.bshl1 rfl rfl rfl (by omega)) ?_
       refine VA.take (i := 9) rfl (by kernel_rfl) (by kernel_rfl) (by kernel_rfl) rfl rfl (OpV.bdiff (a := mskP (pl ++ [(k : Int)]) k) (b := 2 ^ q) rfl rfl rfl (by have := msk12 (pl := pl ++ [(k : Int)]) (by simp; omega) k; omega) (by omega)) ?_
       refine VA.take (i := 10) rfl (by kernel_rfl) (by kernel_rfl) (by kernel_rfl) rfl rfl (OpV.indexAddr_o rfl Tryz.underlying22 Tryz.sizeOf3 rfl rfl rfl (by omega)) ?_
       refine VA.all (rs := [11]) (by kernel_rfl) (by decide) ?_
       refine ⟨⟨_, rfl, .inl rfl, ?_⟩, trivial⟩
       refine OpE.store1 (i := 0) rfl hB rfl Tryz.sizeOf3 rfl rfl rfl rfl rfl rfl (by rw [intsL_len, tabI_len]; omega) ((intsL_set _ _ _).trans (congrArg intsL (mskT_no hl))) (by first | exact ⟨rfl, rfl⟩ | exact .inl ⟨rfl, rfl⟩ | exact .inr ⟨rfl, rfl⟩ | exact ⟨rfl, trivial⟩ | exact .inl ⟨rfl, trivial⟩ | exact .inr ⟨rfl, trivial⟩ | exact ⟨by decide, rfl⟩) ?_
       refine VA.done (by kernel_rfl) ?_
       refine VC.region ?_
       refine VO.val rfl rfl (OpV.add rfl rfl rfl (by unfold fits; omega)) ?_
       refine VO.mv rfl rfl rfl rfl ?_
       refine VO.nil ?_
       exact Exists.intro (⟨k + 1, by omega, lt_succ_cases hns (by simpa using h5)⟩) (And.intro (Le.mk hB [0, 1] ⟨rfl, rfl, rfl, rfl, rfl, rfl, rfl, rfl, rfl, rfl, trivial⟩ rfl rfl (Nat.le_refl _)) (by first | omega | (show _ < _; omega) | (simp only []; omega)))
     ·have h4 := h4b
      try simp only [qqT, qqF, qqN, qqM, qqL, qqE] at h4
      exact VC.absurd (bal_no hq1 hpb hlt (fun j hj => hns j (by omega)))
    ·have aH1 := aH1b
     try simp only [qqT, qqF, qqN, qqM, qqL, qqE] at aH1
     refine VC.exit ?_
     refine VC.sr ?_
     refine VO.mv rfl rfl rfl rfl ?_
     refine VO.mv rfl rfl rfl rfl ?_
     refine VO.ma rfl rfl rfl rfl ?_
     refine VO.ma rfl rfl rfl rfl ?_
     refine VO.ma rfl rfl rfl rfl ?_
     refine VO.ma rfl rfl rfl rfl ?_
     refine VO.nil ?_
     obtain rfl : q = ns.length := by omega
     refine VC.le _ (Le.rowI (t := 4) (i := 1) (xs := pl) hB hnew rfl rfl rfl) ?_
     rw [Nat.sub_self, grd] at hpg
     have h3 : bstV ms ns ns.length [] < neverC := by rw [hBv]; exact hlt
     refine VC.ret ?_
     exact Exists.intro _ (And.intro (RetV.four Tryz.results12 (ResV.tmp rfl) (ResV.tmp rfl) (ResV.tmp rfl) (ResV.tmp rfl)) (by rw [(bal_4 hf0 h12 h3).1, (bal_4 hf0 h12 h3).2.1, (bal_4 hf0 h12 h3).2.2.1, (bal_4 hf0 h12 h3).2.2.2, hBv, hpg]))
end Go.Proofs.YtemnnmohdpabhaaGreatDoor
namespace Go.Proofs.YtemnnmohdpabhaaGreatDoor
open Go.RowKit
set_option linter.unusedVariables false
set_option linter.unusedSimpArgs false
theorem lst_y {ms : List Mach} {key : ByteArray} {k : Nat} (h1 : hasK (ms.getD k default) key = true) (h2 : lstE ms key k < 0 ∨ (ms.getD k default).each < lstE ms key k) : lstE ms key (k + 1) = (ms.getD k default).each := by rw [lstE, if_pos ⟨h1, h2⟩]
theorem lst_n {ms : List Mach} {key : ByteArray} {k : Nat} (h : hasK (ms.getD k default) key = false ∨ (0 ≤ lstE ms key k ∧ lstE ms key k ≤ (ms.getD k default).each)) : lstE ms key (k + 1) = lstE ms key k := by
 rw [lstE, if_neg]
 rintro ⟨h1, h2⟩
 rcases h with h | h
 ·rw [h] at h1; cases h1
 ·omega
theorem tdiv_fit {a b : Int} (h0 : 0 ≤ a) (h : 0 < b) : 0 ≤ a.tdiv b ∧ a.tdiv b ≤ a := by
 rw [Int.tdiv_eq_ediv_of_nonneg h0]
 exact ⟨Int.ediv_nonneg h0 (by omega), Int.ediv_le_self _ h0⟩
set_option maxRecDepth 100000 in
set_option maxHeartbeats 8000000 in
theorem line_Bound {ms : List Mach} {ns : List NeedS} (hm : SmallM ms) (hn : SmallN ns) :
  SpecN Tryz.prog 14 [avL ms, avL ns] (fun y => y = .tup [avI (if faultF ms ns = 0 then bndF ms ns else 0), avI (faultF ms ns)]) := by
 refine SpecN.of_VCN Tryz.func14 rfl Tryz.ntmps14 (Nle rfl) fun w A hB => ?_
 have hnew : True := trivial
 refine VC.sr ?_
 refine VO.ma rfl rfl rfl rfl ?_
 refine VO.ma rfl rfl rfl rfl ?_
 refine VO.nil ?_
 refine VC.seq ?_
 refine VC.sr ?_
 refine VO.mv rfl rfl rfl rfl ?_
 refine VO.mv rfl rfl rfl rfl ?_
 refine VO.op rfl (OpE.call rfl hB rfl Tryz.call71 rfl (SpecN.spec (line_fault hm.l hm.k hm.c hm.s hn.l hn.k)) ?_)
 rintro _ rfl
 refine VO.ma rfl rfl rfl rfl ?_
 refine VO.nil ?_
 refine VC.sr ?_
 refine VO.mv rfl rfl rfl rfl ?_
 refine VO.val rfl rfl (OpV.neq rfl rfl rfl) ?_
 refine VO.nil ?_
 refine VC.cond rfl (fun h0b => ?_) (fun h0b => ?_)
 ·have h0 := h0b
  try simp only [qqT, qqF, qqN, qqM, qqL, qqE] at h0
  refine VC.sr ?_
  refine VO.mv rfl rfl rfl rfl ?_
  refine VO.ma rfl rfl rfl rfl ?_
  refine VO.ma rfl rfl rfl rfl ?_
  refine VO.nil ?_
  refine VC.ret ?_
  exact Exists.intro _ (And.intro (RetN.two Tryz.results14 (ResN.v rfl) (ResN.v rfl)) (by rw [if_neg h0]))
 ·have h0 := h0b
  try simp only [qqT, qqF, qqN, qqM, qqL, qqE] at h0
  have hf0 : faultF ms ns = 0 := by omega
  obtain ⟨hmf, hnf⟩ := faultF_0 hf0
  have hM := MnOk.mk' hmf hnf
  have hlen := machF_len hmf
  have hnl := needsF_len hnf
  refine VC.skip ?_
  refine VC.sr ?_
  refine VO.ma rfl rfl rfl rfl ?_
  refine VO.ma rfl rfl rfl rfl ?_
  refine VO.nil ?_
  refine VC.seq ?_
  refine VC.sr ?_
  refine VO.mv rfl rfl rfl rfl ?_
  refine VO.val rfl rfl (OpV.len_im rfl Tryz.underlying26 rfl) ?_
  refine VO.mv rfl rfl rfl rfl ?_
  refine VO.nil ?_
  refine VC.block ?_
  refine VC.loopK [(0, _), (1, _), (22, _), (23, _)] ⟨rfl, rfl, rfl, rfl, trivial⟩ ({q : Nat // q ≤ ms.length}) (fun (iZ : {q : Nat // q ≤ ms.length}) => match iZ with | ⟨q, hq⟩ => [(7, avI (smN (fun k => (ms.getD k default).fixed) q)), (8, avI (mxK (fun k => (ms.getD k default).fixed) q)), (24, avI (q : Int))]) (fun (iZ : {q : Nat // q ≤ ms.length}) => match iZ with | ⟨q, hq⟩ => []) (fun (iZ : {q : Nat // q ≤ ms.length}) => match iZ with | ⟨q, hq⟩ => 0) (fun (iZ : {q : Nat // q ≤ ms.length}) => match iZ with | ⟨q, hq⟩ => ms.length - q) ⟨0, Nat.zero_le _⟩ (Le.mk hB [] ⟨rfl, rfl, rfl, rfl, rfl, rfl, rfl, trivial⟩ rfl rfl (Nat.le_refl _)) ?_
  rintro ⟨q, hq⟩
  show VC _ _ _ _ ⟨[(7, avI (smN (fun k => (ms.getD k default).fixed) q)), (8, avI (mxK (fun k => (ms.getD k default).fixed) q)), (24, avI (q : Int))] ++ [(0, _), (1, _), (22, _), (23, _)], [], 0⟩
  have hb1 := smN_fix hM q
  have hb2 := hM.fix q
  refine VC.sr ?_
  refine VO.val rfl rfl (OpV.lss rfl rfl rfl) ?_
  refine VO.nil ?_
  refine VC.seq ?_
  refine VC.cond rfl (fun aH1b => ?_) (fun aH1b => ?_)
  ·have aH1 := aH1b
   try simp only [qqT, qqF, qqN, qqM, qqL, qqE] at aH1
   refine VC.skip ?_
   refine VC.seq ?_
   refine VC.block ?_
   refine VC.sr ?_
   refine VO.val rfl rfl (OpV.indexAddr_E rfl Tryz.underlying26 Tryz.sizeOf106 rfl rfl rfl (by omega)) ?_
   refine VO.val rfl rfl (OpV.loadK_at rfl hB OutW.no Tryz.isAgg106 Tryz.sizeOf106 rfl rfl) ?_
   refine VO.op rfl (OpE.alloc rfl hB rfl Tryz.zeroValue106 rfl ?_)
   intro g10
   refine VO.op rfl (OpE.store (i := 0) rfl hB rfl Tryz.sizeOf106 rfl rfl rfl rfl rfl rfl (Nle rfl) trivial ?_)
   refine VO.nil ?_
   refine VC.sr ?_
   refine VO.mv rfl rfl rfl rfl ?_
   refine VO.val rfl rfl (OpV.fieldAddrO 2 rfl Tryz.underlying106 rfl rfl Tryz.sizeOf3 rfl) ?_
   refine VO.val rfl rfl (OpV.load_own (i := 0) rfl hB Tryz.isAgg3 rfl rfl rfl (fun h => h)) ?_
   refine VO.val rfl rfl (OpV.add rfl rfl rfl (by unfold fits; omega)) ?_
   refine VO.ma rfl rfl rfl rfl ?_
   refine VO.nil ?_
   refine VC.region ?_
   refine VO.mv rfl rfl rfl rfl ?_
   refine VO.val rfl rfl (OpV.fieldAddrO 2 rfl Tryz.underlying106 rfl rfl Tryz.sizeOf3 rfl) ?_
   refine VO.val rfl rfl (OpV.load_own (i := 0) rfl hB Tryz.isAgg3 rfl rfl rfl (fun h => h)) ?_
   refine VO.val rfl rfl (OpV.max2 rfl rfl rfl) ?_
   refine VO.ma rfl rfl rfl rfl ?_
   refine VO.nil ?_
   refine VC.region ?_
   refine VO.val rfl rfl (OpV.add rfl rfl rfl (by unfold fits; omega)) ?_
   refine VO.mv rfl rfl rfl rfl ?_
   refine VO.nil ?_
   exact Exists.intro (⟨q + 1, by omega⟩) (And.intro (Le.mk hB [] ⟨rfl, rfl, rfl, rfl, rfl, rfl, rfl, trivial⟩ rfl rfl (Nat.le_refl _)) (by first | omega | (show _ < _; omega) | (simp only []; omega)))
  ·have aH1 := aH1b
   try simp only [qqT, qqF, qqN, qqM, qqL, qqE] at aH1
   obtain rfl : q = ms.length := by omega
   have hb3 := mxK_fix hM ms.length
   refine VC.exit ?_
   refine VC.seq ?_
   refine VC.sr ?_
   refine VO.mv rfl rfl rfl rfl ?_
   refine VO.val rfl rfl (OpV.len_im rfl Tryz.underlying28 rfl) ?_
   refine VO.mv rfl rfl rfl rfl ?_
   refine VO.nil ?_
   refine VC.block ?_
   refine VC.loopK [(0, _), (8, _), (37, _), (38, _)] ⟨rfl, rfl, rfl, rfl, trivial⟩ ({r : Nat // r ≤ ns.length}) (fun (iZ : {r : Nat // r ≤ ns.length}) => match iZ with | ⟨r, hq1⟩ => [(7, avI (bndS ms ns r)), (39, avI (r : Int))]) (fun (iZ : {r : Nat // r ≤ ns.length}) => match iZ with | ⟨r, hq1⟩ => []) (fun (iZ : {r : Nat // r ≤ ns.length}) => match iZ with | ⟨r, hq1⟩ => 0) (fun (iZ : {r : Nat // r ≤ ns.length}) => match iZ with | ⟨r, hq1⟩ => ns.length - r) ⟨0, Nat.zero_le _⟩ (Le.mk hB [] ⟨rfl, rfl, rfl, rfl, rfl, rfl, trivial⟩ rfl rfl (Nat.le_refl _)) ?_
   rintro ⟨r, hq1⟩
   show VC _ _ _ _ ⟨[(7, avI (bndS ms ns r)), (39, avI (r : Int))] ++ [(0, _), (8, _), (37, _), (38, _)], [], 0⟩
   have hc1 := bndS_in hM r
   refine VC.sr ?_
   refine VO.val rfl rfl (OpV.lss rfl rfl rfl) ?_
   refine VO.nil ?_
   refine VC.seq ?_
   refine VC.cond rfl (fun aH2b => ?_) (fun aH2b => ?_)
   ·have aH2 := aH2b
    try simp only [qqT, qqF, qqN, qqM, qqL, qqE] at aH2
    refine VC.skip ?_
    refine VC.seq ?_
    refine VC.block ?_
    refine VC.sr ?_
    refine VO.val rfl rfl (OpV.indexAddr_E rfl Tryz.underlying28 Tryz.sizeOf111 rfl rfl rfl (by omega)) ?_
    refine VO.val rfl rfl (OpV.loadK_at rfl hB OutW.no Tryz.isAgg111 Tryz.sizeOf111 rfl rfl) ?_
    refine VO.op rfl (OpE.alloc rfl hB rfl Tryz.zeroValue111 rfl ?_)
    intro g12
    refine VO.op rfl (OpE.store (i := 0) rfl hB rfl Tryz.sizeOf111 rfl rfl rfl rfl rfl rfl (Nle rfl) trivial ?_)
    refine VO.nil ?_
    refine VC.sr ?_
    refine VO.ma rfl rfl rfl rfl ?_
    refine VO.nil ?_
    refine VC.seq ?_
    refine VC.sr ?_
    refine VO.mv rfl rfl rfl rfl ?_
    refine VO.val rfl rfl (OpV.len_im rfl Tryz.underlying26 rfl) ?_
    refine VO.mv rfl rfl rfl rfl ?_
    refine VO.nil ?_
    refine VC.block ?_
    refine VC.loopK [(0, _), (7, _), (8, _), (12, _), (37, _), (38, _), (39, _), (43, _), (44, _)] ⟨rfl, rfl, rfl, rfl, rfl, rfl, rfl, rfl, rfl, trivial⟩ ({k : Nat // k ≤ ms.length}) (fun (iZ : {k : Nat // k ≤ ms.length}) => match iZ with | ⟨k, hq2⟩ => [(13, avI (lstE ms (ns.getD r default).key k)), (45, avI (k : Int))]) (fun (iZ : {k : Nat // k ≤ ms.length}) => match iZ with | ⟨k, hq2⟩ => [.box g12 ⟨[avS (ns.getD r default).key, avI (ns.getD r default).count], 111, 2⟩]) (fun (iZ : {k : Nat // k ≤ ms.length}) => match iZ with | ⟨k, hq2⟩ => 0) (fun (iZ : {k : Nat // k ≤ ms.length}) => match iZ with | ⟨k, hq2⟩ => ms.length - k) ⟨0, Nat.zero_le _⟩ (Le.mk hB [0] ⟨rfl, rfl, rfl, rfl, rfl, rfl, rfl, rfl, rfl, rfl, rfl, trivial⟩ rfl rfl (Nat.le_refl _)) ?_
    rintro ⟨k, hq2⟩
    show VC _ _ _ _ ⟨[(13, avI (lstE ms (ns.getD r default).key k)), (45, avI (k : Int))] ++ [(0, _), (7, _), (8, _), (12, _), (37, _), (38, _), (39, _), (43, _), (44, _)], [.box g12 ⟨[avS (ns.getD r default).key, avI (ns.getD r default).count], 111, 2⟩], 0⟩
    have hl1 := lstE_each hM (key := (ns.getD r default).key) k
    refine VC.sr ?_
    refine VO.val rfl rfl (OpV.lss rfl rfl rfl) ?_
    refine VO.nil ?_
    refine VC.seq ?_
    refine VC.cond rfl (fun aH3b => ?_) (fun aH3b => ?_)
    ·have aH3 := aH3b
     try simp only [qqT, qqF, qqN, qqM, qqL, qqE] at aH3
     refine VC.skip ?_
     refine VC.seq ?_
     refine VC.block ?_
     refine VC.sr ?_
     refine VO.val rfl rfl (OpV.indexAddr_E rfl Tryz.underlying26 Tryz.sizeOf106 rfl rfl rfl (by omega)) ?_
     refine VO.val rfl rfl (OpV.loadK_at rfl hB OutW.no Tryz.isAgg106 Tryz.sizeOf106 rfl rfl) ?_
     refine VO.op rfl (OpE.alloc rfl hB rfl Tryz.zeroValue106 rfl ?_)
     intro g15
     refine VO.op rfl (OpE.store (i := 1) rfl hB rfl Tryz.sizeOf106 rfl rfl rfl rfl rfl rfl (Nle rfl) trivial ?_)
     refine VO.nil ?_
     refine VC.sr ?_
     refine VO.val rfl rfl (OpV.loadK_own (i := 1) rfl hB Tryz.isAgg106 Tryz.sizeOf106 rfl rfl rfl (fun h => h)) ?_
     refine VO.val rfl rfl (OpV.fieldAddrO 0 rfl Tryz.underlying111 rfl rfl Tryz.sizeOf9 rfl) ?_
     refine VO.val rfl rfl (OpV.load_own (i := 0) rfl hB Tryz.isAgg9 rfl rfl rfl (fun h => h)) ?_
     refine VO.op rfl (OpE.call rfl hB rfl Tryz.call79 rfl (SpecN.spec (line_can (by have := canF_keys (machF_each hmf (i := k) (by omega)).2; omega) (canF_sort (machF_each hmf (by omega)).2))) ?_)
     rintro _ rfl
     refine VO.mv rfl rfl rfl rfl ?_
     refine VO.opG rfl rfl rfl rfl (fun aK4b => ?_) (fun aK4b => ?_)
     ·replace aK4b : _ = true := aK4b
      have aK4 := aK4b
      try simp only [qqT, qqF, qqN, qqM, qqL, qqE] at aK4
      refine OpE.val (W := NoB) (OpV.move (.inl rfl) rfl) rfl ?_
      refine VO.opY rfl rfl rfl rfl aK4b ?_
      refine OpE.val (W := NoB) (OpV.lss rfl rfl rfl) rfl ?_
      refine VO.opY rfl rfl rfl rfl aK4b ?_
      refine OpE.val (W := NoB) (OpV.move (.inl rfl) rfl) rfl ?_
      refine VO.opG rfl rfl rfl rfl (fun aK5b => ?_) (fun aK5b => ?_)
      ·replace aK5b : _ = false := aK5b
       have aK5 := aK5b
       try simp only [qqT, qqF, qqN, qqM, qqL, qqE] at aK5
       refine OpE.val (W := NoB) (OpV.fieldAddrO 1 rfl Tryz.underlying106 rfl rfl Tryz.sizeOf3 rfl) rfl ?_
       refine VO.opY rfl rfl rfl rfl aK5b ?_
       refine OpE.val (W := NoB) (OpV.load_own (i := 1) rfl hB Tryz.isAgg3 rfl rfl rfl (fun h => h)) rfl ?_
       refine VO.opY rfl rfl rfl rfl aK5b ?_
       refine OpE.val (W := NoB) (OpV.move (.inl rfl) rfl) rfl ?_
       refine VO.opY rfl rfl rfl rfl aK5b ?_
       refine OpE.val (W := NoB) (OpV.lss rfl rfl rfl) rfl ?_
       refine VO.opY rfl rfl rfl rfl aK4b ?_
       refine OpE.val (W := NoB) (OpV.pickF rfl rfl rfl rfl aK5b) rfl ?_
       refine VO.val rfl rfl (OpV.pickT rfl rfl rfl rfl aK4b) ?_
       refine VO.nil ?_
       refine VC.cond rfl (fun aH6b => ?_) (fun aH6b => ?_)
       ·have aH6 := aH6b
        try simp only [qqT, qqF, qqN, qqM, qqL, qqE] at aH6
        refine VC.region ?_
        refine VO.val rfl rfl (OpV.fieldAddrO 1 rfl Tryz.underlying106 rfl rfl Tryz.sizeOf3 rfl) ?_
        refine VO.val rfl rfl (OpV.load_own (i := 1) rfl hB Tryz.isAgg3 rfl rfl rfl (fun h => h)) ?_
        refine VO.ma rfl rfl rfl rfl ?_
        refine VO.nil ?_
        refine VC.region ?_
        refine VO.val rfl rfl (OpV.add rfl rfl rfl (by unfold fits; omega)) ?_
        refine VO.mv rfl rfl rfl rfl ?_
        refine VO.nil ?_
        exact Exists.intro (⟨k + 1, by omega⟩) (And.intro (Le.mk hB [0] ⟨(by dsimp only; first | (rw [lst_y (by assumption) (by first | exact .inl (by omega) | exact .inr (by omega))]; rfl) | (rw [lst_n (by first | exact .inl (by assumption) | exact .inr (by omega))]; rfl)), rfl, rfl, rfl, rfl, rfl, rfl, rfl, rfl, rfl, rfl, trivial⟩ rfl rfl (Nat.le_refl _)) (by first | omega | (show _ < _; omega) | (simp only []; omega)))
       ·have aH6 := aH6b
        try simp only [qqT, qqF, qqN, qqM, qqL, qqE] at aH6
        refine VC.skip ?_
        refine VC.region ?_
        refine VO.val rfl rfl (OpV.add rfl rfl rfl (by unfold fits; omega)) ?_
        refine VO.mv rfl rfl rfl rfl ?_
        refine VO.nil ?_
        exact Exists.intro (⟨k + 1, by omega⟩) (And.intro (Le.mk hB [0] ⟨(by dsimp only; first | (rw [lst_y (by assumption) (by first | exact .inl (by omega) | exact .inr (by omega))]; rfl) | (rw [lst_n (by first | exact .inl (by assumption) | exact .inr (by omega))]; rfl)), rfl, rfl, rfl, rfl, rfl, rfl, rfl, rfl, rfl, rfl, trivial⟩ rfl rfl (Nat.le_refl _)) (by first | omega | (show _ < _; omega) | (simp only []; omega)))
      ·replace aK5b : _ = true := aK5b
       have aK5 := aK5b
       try simp only [qqT, qqF, qqN, qqM, qqL, qqE] at aK5
       refine VO.opX rfl rfl rfl rfl aK5b ?_
       refine VO.opX rfl rfl rfl rfl aK5b ?_
       refine VO.opX rfl rfl rfl rfl aK5b ?_
       refine VO.opY rfl rfl rfl rfl aK4b ?_
       refine OpE.val (W := NoB) (OpV.pickT rfl rfl rfl rfl aK5b) rfl ?_
       refine VO.val rfl rfl (OpV.pickT rfl rfl rfl rfl aK4b) ?_
       refine VO.nil ?_
       refine VC.condT rfl rfl ?_
       refine VC.region ?_
       refine VO.val rfl rfl (OpV.fieldAddrO 1 rfl Tryz.underlying106 rfl rfl Tryz.sizeOf3 rfl) ?_
       refine VO.val rfl rfl (OpV.load_own (i := 1) rfl hB Tryz.isAgg3 rfl rfl rfl (fun h => h)) ?_
       refine VO.ma rfl rfl rfl rfl ?_
       refine VO.nil ?_
       refine VC.region ?_
       refine VO.val rfl rfl (OpV.add rfl rfl rfl (by unfold fits; omega)) ?_
       refine VO.mv rfl rfl rfl rfl ?_
       refine VO.nil ?_
       exact Exists.intro (⟨k + 1, by omega⟩) (And.intro (Le.mk hB [0] ⟨(by dsimp only; first | (rw [lst_y (by assumption) (by first | exact .inl (by omega) | exact .inr (by omega))]; rfl) | (rw [lst_n (by first | exact .inl (by assumption) | exact .inr (by omega))]; rfl)), rfl, rfl, rfl, rfl, rfl, rfl, rfl, rfl, rfl, rfl, trivial⟩ rfl rfl (Nat.le_refl _)) (by first | omega | (show _ < _; omega) | (simp only []; omega)))
     ·replace aK4b : _ = false := aK4b
      have aK4 := aK4b
      try simp only [qqT, qqF, qqN, qqM, qqL, qqE] at aK4
      refine VO.opX rfl rfl rfl rfl aK4b ?_
      refine VO.opX rfl rfl rfl rfl aK4b ?_
      refine VO.opU rfl rfl rfl rfl ?_
      refine VO.opU rfl rfl rfl rfl ?_
      refine VO.opU rfl rfl rfl rfl ?_
      refine VO.opU rfl rfl rfl rfl ?_
      refine VO.opX rfl rfl rfl rfl aK4b ?_
      refine VO.val rfl rfl (OpV.pickF rfl rfl rfl rfl aK4b) ?_
      refine VO.nil ?_
      refine VC.condF rfl rfl ?_
      refine VC.skip ?_
      refine VC.region ?_
      refine VO.val rfl rfl (OpV.add rfl rfl rfl (by unfold fits; omega)) ?_
      refine VO.mv rfl rfl rfl rfl ?_
      refine VO.nil ?_
      exact Exists.intro (⟨k + 1, by omega⟩) (And.intro (Le.mk hB [0] ⟨(by dsimp only; first | (rw [lst_y (by assumption) (by first | exact .inl (by omega) | exact .inr (by omega))]; rfl) | (rw [lst_n (by first | exact .inl (by assumption) | exact .inr (by omega))]; rfl)), rfl, rfl, rfl, rfl, rfl, rfl, rfl, rfl, rfl, rfl, trivial⟩ rfl rfl (Nat.le_refl _)) (by first | omega | (show _ < _; omega) | (simp only []; omega)))
    ·have aH3 := aH3b
     try simp only [qqT, qqF, qqN, qqM, qqL, qqE] at aH3
     obtain rfl : k = ms.length := by omega
     have hl2 := lstE_each hM (key := (ns.getD r default).key) ms.length
     have hl3 := mul_in2 (a := max (lstE ms (ns.getD r default).key ms.length) 0) (by omega) (hM.cnt r)
     refine VC.exit ?_
     refine VC.region ?_
     refine VO.mv rfl rfl rfl rfl ?_
     refine VO.mv rfl rfl rfl rfl ?_
     refine VO.val rfl rfl (OpV.max2 rfl rfl rfl) ?_
     refine VO.val rfl rfl (OpV.fieldAddrO 1 rfl Tryz.underlying111 rfl rfl Tryz.sizeOf3 rfl) ?_
     refine VO.val rfl rfl (OpV.load_own (i := 0) rfl hB Tryz.isAgg3 rfl rfl rfl (fun h => h)) ?_
     refine VO.val rfl rfl (OpV.mul rfl rfl rfl (by unfold fits; omega)) ?_
     refine VO.val rfl rfl (OpV.add rfl rfl rfl (by unfold fits; omega)) ?_
     refine VO.ma rfl rfl rfl rfl ?_
     refine VO.nil ?_
     refine VC.region ?_
     refine VO.val rfl rfl (OpV.add rfl rfl rfl (by unfold fits; omega)) ?_
     refine VO.mv rfl rfl rfl rfl ?_
     refine VO.nil ?_
     exact Exists.intro (⟨r + 1, by omega⟩) (And.intro (Le.mk hB [] ⟨rfl, rfl, rfl, rfl, rfl, rfl, trivial⟩ rfl rfl (Nat.le_refl _)) (by first | omega | (show _ < _; omega) | (simp only []; omega)))
   ·have aH2 := aH2b
    try simp only [qqT, qqF, qqN, qqM, qqL, qqE] at aH2
    obtain rfl : r = ns.length := by omega
    have htd := tdiv_fit (a := bndS ms ns ns.length + ms.length - 1) (b := ms.length) (by omega) (by omega)
    refine VC.exit ?_
    refine VC.sr ?_
    refine VO.mv rfl rfl rfl rfl ?_
    refine VO.mv rfl rfl rfl rfl ?_
    refine VO.mv rfl rfl rfl rfl ?_
    refine VO.val rfl rfl (OpV.len_im rfl Tryz.underlying26 rfl) ?_
    refine VO.val rfl rfl (OpV.add rfl rfl rfl (by unfold fits; omega)) ?_
    refine VO.val rfl rfl (OpV.sub rfl rfl rfl (by unfold fits; omega)) ?_
    refine VO.mv rfl rfl rfl rfl ?_
    refine VO.val rfl rfl (OpV.len_im rfl Tryz.underlying26 rfl) ?_
    refine VO.val rfl rfl (OpV.quo rfl rfl rfl (by omega) (by unfold fits; omega)) ?_
    refine VO.val rfl rfl (OpV.max2 rfl rfl rfl) ?_
    refine VO.ma rfl rfl rfl rfl ?_
    refine VO.ma rfl rfl rfl rfl ?_
    refine VO.nil ?_
    refine VC.ret ?_
    exact Exists.intro _ (And.intro (RetN.two Tryz.results14 (ResN.v rfl) (ResN.v rfl)) (by rw [if_pos hf0, hf0]; rfl))
set_option maxRecDepth 100000 in
theorem slices_IndexFunc_machI {xs : List Mach} {F : FuncId} {cs : List AV} {p : Mach → Bool} (hl : xs.length ≤ 1000000000) (hcall : ∀ us w, (callFunc F us).run Tryz.prog w = .ok (.enter F us) w) (hF : ∀ i, i < xs.length → Spec Tryz.prog F ([avT (xs.getD i default)] ++ cs) (fun y => y = avB (p (xs.getD i default)))) :
  SpecN Tryz.prog 175 [avL xs, .fn F cs] (fun y => y = avI (fidx p xs)) := by
 refine SpecN.of_VCN Tryz.func175 rfl Tryz.ntmps175 (Nle rfl) fun w A hB => ?_
 have hnew : True := trivial
 refine VC.sr ?_
 refine VO.ma rfl rfl rfl rfl ?_
 refine VO.nil ?_
 refine VC.seq ?_
 refine VC.sr ?_
 refine VO.mv rfl rfl rfl rfl ?_
 refine VO.val rfl rfl (OpV.len_im rfl Tryz.underlying26 rfl) ?_
 refine VO.mv rfl rfl rfl rfl ?_
 refine VO.nil ?_
 refine VC.block ?_
 refine VC.loopK [(0, _), (1, _), (7, _)] ⟨rfl, rfl, rfl, trivial⟩ ({q : Nat // q ≤ xs.length ∧ ∀ j, j < q → p (xs.getD j default) = false}) (fun (iZ : {q : Nat // q ≤ xs.length ∧ ∀ j, j < q → p (xs.getD j default) = false}) => match iZ with | ⟨q, hq, hn⟩ => [(8, avI (q : Int))]) (fun (iZ : {q : Nat // q ≤ xs.length ∧ ∀ j, j < q → p (xs.getD j default) = false}) => match iZ with | ⟨q, hq, hn⟩ => []) (fun (iZ : {q : Nat // q ≤ xs.length ∧ ∀ j, j < q → p (xs.getD j default) = false}) => match iZ with | ⟨q, hq, hn⟩ => 0) (fun (iZ : {q : Nat // q ≤ xs.length ∧ ∀ j, j < q → p (xs.getD j default) = false}) => match iZ with | ⟨q, hq, hn⟩ => xs.length - q) ⟨0, Nat.zero_le _, fun j hj => absurd hj (Nat.not_lt_zero j)⟩ (Le.mk hB [] ⟨rfl, rfl, rfl, rfl, trivial⟩ rfl rfl (Nat.le_refl _)) ?_
 rintro ⟨q, hq, hn⟩
 show VC _ _ _ _ ⟨[(8, avI (q : Int))] ++ [(0, _), (1, _), (7, _)], [], 0⟩
 refine VC.sr ?_
 refine VO.val rfl rfl (OpV.lss rfl rfl rfl) ?_
 refine VO.nil ?_
 refine VC.seq ?_
 refine VC.cond rfl (fun aH1b => ?_) (fun aH1b => ?_)
 ·have aH1 := aH1b
  try simp only [qqT, qqF, qqN, qqM, qqL, qqE] at aH1
  refine VC.skip ?_
  refine VC.seq ?_
  refine VC.block ?_
  refine VC.sr ?_
  refine VO.mv rfl rfl rfl rfl ?_
  refine VO.ma rfl rfl rfl rfl ?_
  refine VO.nil ?_
  refine VC.sr ?_
  refine VO.mv rfl rfl rfl rfl ?_
  refine VO.mv rfl rfl rfl rfl ?_
  refine VO.mv rfl rfl rfl rfl ?_
  refine VO.val rfl rfl (OpV.indexAddr_E rfl Tryz.underlying26 Tryz.sizeOf106 rfl rfl rfl (by omega)) ?_
  refine VO.val rfl rfl (OpV.loadK_at rfl hB OutW.no Tryz.isAgg106 Tryz.sizeOf106 rfl rfl) ?_
  refine VO.op rfl (OpE.callF rfl hB rfl hcall rfl rfl (hF q (by omega)) ?_)
  rintro _ rfl
  refine VO.nil ?_
  refine VC.cond rfl (fun aH2b => ?_) (fun aH2b => ?_)
  ·have aH2 := aH2b
   try simp only [qqT, qqF, qqN, qqM, qqL, qqE] at aH2
   refine VC.sr ?_
   refine VO.mv rfl rfl rfl rfl ?_
   refine VO.ma rfl rfl rfl rfl ?_
   refine VO.nil ?_
   refine VC.ret ?_
   exact Exists.intro _ (And.intro (RetN.one Tryz.results175 (ResN.v rfl)) (by first | (rw [fidx_found (d := default) (q := q) (by omega) hn (by assumption)]) | (rw [fidx_none (d := default) (fun j hj => hn j (by omega))])))
  ·have aH2 := aH2b
   try simp only [qqT, qqF, qqN, qqM, qqL, qqE] at aH2
   refine VC.skip ?_
   refine VC.region ?_
   refine VO.val rfl rfl (OpV.add rfl rfl rfl (by unfold fits; omega)) ?_
   refine VO.mv rfl rfl rfl rfl ?_
   refine VO.nil ?_
   exact Exists.intro (⟨q + 1, by omega, lt_succ_cases hn ((by assumption))⟩) (And.intro (Le.mk hB [] ⟨rfl, rfl, rfl, rfl, trivial⟩ rfl rfl (Nat.le_refl _)) (by first | omega | (show _ < _; omega) | (simp only []; omega)))
 ·have aH1 := aH1b
  try simp only [qqT, qqF, qqN, qqM, qqL, qqE] at aH1
  refine VC.exit ?_
  refine VC.sr ?_
  refine VO.ma rfl rfl rfl rfl ?_
  refine VO.nil ?_
  refine VC.ret ?_
  exact Exists.intro _ (And.intro (RetN.one Tryz.results175 (ResN.v rfl)) (by first | (rw [fidx_found (d := default) (q := q) (by omega) hn (by assumption)]) | (rw [fidx_none (d := default) (fun j hj => hn j (by omega))])))
set_option maxRecDepth 100000 in
theorem slices_ContainsFunc_machI {xs : List Mach} {F : FuncId} {cs : List AV} {p : Mach → Bool} (hl : xs.length ≤ 1000000000) (hcall : ∀ us w, (callFunc F us).run Tryz.prog w = .ok (.enter F us) w) (hF : ∀ i, i < xs.length → Spec Tryz.prog F ([avT (xs.getD i default)] ++ cs) (fun y => y = avB (p (xs.getD i default)))) :
  SpecN Tryz.prog 80 [avL xs, .fn F cs] (fun y => y = avB (xs.any p)) := by
 refine SpecN.of_VCN Tryz.func80 rfl Tryz.ntmps80 (Nle rfl) fun w A hB => ?_
 have hnew : True := trivial
 refine VC.sr ?_
 refine VO.ma rfl rfl rfl rfl ?_
 refine VO.nil ?_
 refine VC.sr ?_
 refine VO.mv rfl rfl rfl rfl ?_
 refine VO.mv rfl rfl rfl rfl ?_
 refine VO.op rfl (OpE.call rfl hB rfl Tryz.call175 rfl (SpecN.spec (slices_IndexFunc_machI hl hcall hF)) ?_)
 rintro _ rfl
 refine VO.val rfl rfl (OpV.geq rfl rfl rfl) ?_
 refine VO.ma rfl rfl rfl rfl ?_
 refine VO.nil ?_
 refine VC.ret ?_
 exact Exists.intro _ (And.intro (RetN.one Tryz.results80 (ResN.v rfl)) (by rw [← fidx_any]))
set_option maxRecDepth 100000 in
theorem line_Nobody1 {x : Mach} {n : NeedS} (hl : x.can.length ≤ 1000000000) (hs : SortS x.can) :
  SpecN Tryz.prog 81 [avT x, .at_ 2 (Sxc.cell n)] (fun y => y = avB (hasK x n.key)) := by
 refine SpecN.of_VCN Tryz.func81 rfl Tryz.ntmps81 (Nle rfl) fun w A hB => ?_
 have hnew : True := trivial
 refine VC.sr ?_
 refine VO.op rfl (OpE.box rfl hB rfl rfl rfl ?_)
 intro g2
 refine VO.ma rfl rfl rfl rfl ?_
 refine VO.nil ?_
 refine VC.sr ?_
 refine VO.val rfl rfl (OpV.loadK_own (i := 0) rfl hB Tryz.isAgg106 Tryz.sizeOf106 rfl rfl rfl (fun h => h)) ?_
 refine VO.val rfl rfl (OpV.fieldAddr_atO 0 rfl Tryz.underlying111 rfl rfl Tryz.sizeOf9 rfl rfl) ?_
 refine VO.val rfl rfl (OpV.load_at rfl hB OutW.no Tryz.isAgg9 rfl rfl) ?_
 refine VO.op rfl (OpE.call rfl hB rfl Tryz.call79 rfl (SpecN.spec (line_can hl hs)) ?_)
 rintro _ rfl
 refine VO.ma rfl rfl rfl rfl ?_
 refine VO.nil ?_
 refine VC.ret ?_
 exact Exists.intro _ (And.intro (RetN.one Tryz.results81 (ResN.v rfl)) (rfl))
set_option maxRecDepth 100000 in
set_option maxHeartbeats 8000000 in
theorem line_Nobody {ms : List Mach} {ns : List NeedS} (hm : SmallM ms) (hn : SmallN ns) :
  SpecN Tryz.prog 15 [avL ms, avL ns] (fun y => y = .tup [avStrs (if faultF ms ns = 0 then nobL ms ns else []), avI (faultF ms ns)]) := by
 refine SpecN.of_VCN Tryz.func15 rfl Tryz.ntmps15 (Nle rfl) fun w A hB => ?_
 have hnew : True := trivial
 refine VC.sr ?_
 refine VO.ma rfl rfl rfl rfl ?_
 refine VO.ma rfl rfl rfl rfl ?_
 refine VO.nil ?_
 refine VC.seq ?_
 refine VC.sr ?_
 refine VO.mv rfl rfl rfl rfl ?_
 refine VO.mv rfl rfl rfl rfl ?_
 refine VO.op rfl (OpE.call rfl hB rfl Tryz.call71 rfl (SpecN.spec (line_fault hm.l hm.k hm.c hm.s hn.l hn.k)) ?_)
 rintro _ rfl
 refine VO.ma rfl rfl rfl rfl ?_
 refine VO.nil ?_
 refine VC.sr ?_
 refine VO.mv rfl rfl rfl rfl ?_
 refine VO.val rfl rfl (OpV.neq rfl rfl rfl) ?_
 refine VO.nil ?_
 refine VC.cond rfl (fun h0b => ?_) (fun h0b => ?_)
 ·have h0 := h0b
  try simp only [qqT, qqF, qqN, qqM, qqL, qqE] at h0
  refine VC.sr ?_
  refine VO.mv rfl rfl rfl rfl ?_
  refine VO.ma rfl rfl rfl rfl ?_
  refine VO.ma rfl rfl rfl rfl ?_
  refine VO.nil ?_
  refine VC.ret ?_
  exact Exists.intro _ (And.intro (RetN.two Tryz.results15 (ResN.nilE rfl) (ResN.v rfl)) (by rw [if_neg h0]; rfl))
 ·have h0 := h0b
  try simp only [qqT, qqF, qqN, qqM, qqL, qqE] at h0
  have hf0 : faultF ms ns = 0 := by omega
  obtain ⟨hmf, hnf⟩ := faultF_0 hf0
  have hlen := machF_len hmf
  have hnl := needsF_len hnf
  refine VC.skip ?_
  refine VC.sr ?_
  refine VO.ma rfl rfl rfl rfl ?_
  refine VO.nil ?_
  refine VC.seq ?_
  refine VC.sr ?_
  refine VO.mv rfl rfl rfl rfl ?_
  refine VO.val rfl rfl (OpV.len_im rfl Tryz.underlying28 rfl) ?_
  refine VO.mv rfl rfl rfl rfl ?_
  refine VO.nil ?_
  refine VC.block ?_
  refine VC.le _ (Le.nilRow 1 9) ?_
  refine VC.loopK [(0, _), (16, _), (17, _)] ⟨rfl, rfl, rfl, trivial⟩ ({zz : Value × Nat // zz.2 ≤ ns.length}) (fun (iZ : {zz : Value × Nat // zz.2 ≤ ns.length}) => match iZ with | ⟨⟨u, q⟩, hq⟩ => [(7, .v u), (18, avI (q : Int))]) (fun (iZ : {zz : Value × Nat // zz.2 ≤ ns.length}) => match iZ with | ⟨⟨u, q⟩, hq⟩ => [.row u (nobL ms (ns.take q)).length 1 (strsL (nobL ms (ns.take q))) 9]) (fun (iZ : {zz : Value × Nat // zz.2 ≤ ns.length}) => match iZ with | ⟨⟨u, q⟩, hq⟩ => 0) (fun (iZ : {zz : Value × Nat // zz.2 ≤ ns.length}) => match iZ with | ⟨⟨u, q⟩, hq⟩ => ns.length - q) ⟨(.slice none 0 0, 0), Nat.zero_le _⟩ (Le.mk hB [0] ⟨rfl, rfl, rfl, rfl, rfl, trivial⟩ rfl rfl (Nat.le_refl _)) ?_
  rintro ⟨⟨u, q⟩, hq⟩
  show VC _ _ _ _ ⟨[(7, .v u), (18, avI (q : Int))] ++ [(0, _), (16, _), (17, _)], [.row u (nobL ms (ns.take q)).length 1 (strsL (nobL ms (ns.take q))) 9], 0⟩
  simp only at hq
  have hno := nobL_len (ms := ms) (ns := ns.take q)
  have hno2 : (ns.take q).length ≤ q := by rw [List.length_take]; omega
  refine VC.sr ?_
  refine VO.val rfl rfl (OpV.lss rfl rfl rfl) ?_
  refine VO.nil ?_
  refine VC.seq ?_
  refine VC.cond rfl (fun aH1b => ?_) (fun aH1b => ?_)
  ·have aH1 := aH1b
   try simp only [qqT, qqF, qqN, qqM, qqL, qqE] at aH1
   refine VC.skip ?_
   refine VC.seq ?_
   refine VC.block ?_
   refine VC.sr ?_
   refine VO.val rfl rfl (OpV.indexAddr_E rfl Tryz.underlying28 Tryz.sizeOf111 rfl rfl rfl (by omega)) ?_
   refine VO.val rfl rfl (OpV.loadK_at rfl hB OutW.no Tryz.isAgg111 Tryz.sizeOf111 rfl rfl) ?_
   refine VO.op rfl (OpE.alloc rfl hB rfl Tryz.zeroValue111 rfl ?_)
   intro g9
   refine VO.op rfl (OpE.store (i := 1) rfl hB rfl Tryz.sizeOf111 rfl rfl rfl rfl rfl rfl (Nle rfl) trivial ?_)
   refine VO.nil ?_
   refine VC.sr ?_
   refine VO.mv rfl rfl rfl rfl ?_
   refine VO.val rfl rfl (OpV.makeFunc1 rfl rfl) ?_
   refine VO.op rfl (OpE.callL rfl hB rfl Tryz.call80 (slices_ContainsFunc_machI (p := fun x => hasK x (ns.getD q default).key) (by omega) Tryz.call81 (fun i hi => (line_Nobody1 (by have := canF_keys (machF_each hmf hi).2; omega) (canF_sort (machF_each hmf hi).2)).spec)) (ArgsP.cons (ArgP.ev rfl) (ArgsP.cons (ArgP.fn1 (i := 1) (m := 2) (f := Sxc.cell (ns.getD q default)) rfl rfl (Nle rfl) (lt2 rfl rfl)) (ArgsP.nil))) ?_)
   rintro _ rfl
   refine VO.val rfl rfl (OpV.not rfl rfl) ?_
   refine VO.nil ?_
   refine VC.cond rfl (fun h2b => ?_) (fun h2b => ?_)
   ·have h2 := h2b
    try simp only [qqT, qqF, qqN, qqM, qqL, qqE] at h2
    refine VC.region ?_
    refine VO.mv rfl rfl rfl rfl ?_
    refine VO.val rfl rfl (OpV.fieldAddrO 0 rfl Tryz.underlying111 rfl rfl Tryz.sizeOf9 rfl) ?_
    refine VO.val rfl rfl (OpV.load_own (i := 1) rfl hB Tryz.isAgg9 rfl rfl rfl (fun h => h)) ?_
    refine VO.op rfl (OpE.buildSlice (zc := #[.string ⟨#[]⟩]) rfl hB rfl Tryz.underlying40 Tryz.sizeOf9 Tryz.zeroValue9 (by decide) (by decide) (by kernel_rfl) rfl rfl ?_)
    refine VO.op rfl (OpE.append1 (i := 0) rfl hB rfl Tryz.underlying40 (infoOf Tryz.t9 1 (by kernel_rfl) rfl rfl) rfl (by decide) (by decide) rfl rfl rfl rfl (strsL_snoc _ _) (by omega) (fun _ _ => trivial) ?_)
    intro u30
    refine VO.ma rfl rfl rfl rfl ?_
    refine VO.nil ?_
    refine VC.region ?_
    refine VO.val rfl rfl (OpV.add rfl rfl rfl (by unfold fits; omega)) ?_
    refine VO.mv rfl rfl rfl rfl ?_
    refine VO.nil ?_
    exact Exists.intro (⟨(u30, q + 1), by show _ ≤ _; omega⟩) (And.intro (Le.mk hB [0] ⟨rfl, rfl, rfl, rfl, rfl, trivial⟩ rfl (by dsimp only; rw [nobL_take (by omega)]; first | (rw [if_pos (by assumption), List.append_nil]; rfl) | (rw [if_neg (by simp_all), List.length_append]; rfl)) (Nat.le_refl _)) (by first | omega | (show _ < _; omega) | (simp only []; omega)))
   ·have h2 := h2b
    try simp only [qqT, qqF, qqN, qqM, qqL, qqE] at h2
    refine VC.skip ?_
    refine VC.region ?_
    refine VO.val rfl rfl (OpV.add rfl rfl rfl (by unfold fits; omega)) ?_
    refine VO.mv rfl rfl rfl rfl ?_
    refine VO.nil ?_
    exact Exists.intro (⟨(u, q + 1), by show _ ≤ _; omega⟩) (And.intro (Le.mk hB [0] ⟨rfl, rfl, rfl, rfl, rfl, trivial⟩ rfl (by dsimp only; rw [nobL_take (by omega)]; first | (rw [if_pos (by assumption), List.append_nil]; rfl) | (rw [if_neg (by simp_all), List.length_append]; rfl)) (Nat.le_refl _)) (by first | omega | (show _ < _; omega) | (simp only []; omega)))
  ·have aH1 := aH1b
   try simp only [qqT, qqF, qqN, qqM, qqL, qqE] at aH1
   refine VC.exit ?_
   refine VC.seq ?_
   have hqe : ns.take q = ns := List.take_of_length_le (by omega)
   rw [hqe]
   refine VC.region ?_
   refine VO.mv rfl rfl rfl rfl ?_
   refine VO.ma rfl rfl rfl rfl ?_
   refine VO.ma rfl rfl rfl rfl ?_
   refine VO.nil ?_
   refine VC.ret ?_
   exact Exists.intro _ (And.intro (RetN.two Tryz.results15 (ResN.rowS (i := 0) rfl rfl rfl) (ResN.v rfl)) (by rw [if_pos hf0, hf0]))
end Go.Proofs.YtemnnmohdpabhaaGreatDoor
namespace Go.Proofs.YtemnnmohdpabhaaGreatDoor
open Go.RowKit
set_option linter.unusedVariables false
set_option linter.unusedSimpArgs false
theorem pck_y {f : Nat → Int} {ok : Nat → Bool} {k : Nat} (h1 : ok k = true) (h2 : pckF f ok k < 0 ∨ f k < f (pckF f ok k).toNat) : pckF f ok (k + 1) = (k : Int) := by rw [pckF, if_pos ⟨h1, h2⟩]
theorem pck_n1 {f : Nat → Int} {ok : Nat → Bool} {k : Nat} (h1 : ok k = false) : pckF f ok (k + 1) = pckF f ok k := by rw [pckF, if_neg (fun h => by rw [h1] at h; cases h.1)]
theorem pck_n2 {f : Nat → Int} {ok : Nat → Bool} {k : Nat} (h1 : ¬ pckF f ok k < 0) (h2 : ¬ f k < f (pckF f ok k).toNat) : pckF f ok (k + 1) = pckF f ok k := by rw [pckF, if_neg (fun h => h.2.elim h1 h2)]
theorem pck_bd (f : Nat → Int) (ok : Nat → Bool) (K : Nat) : -1 ≤ pckF f ok K ∧ pckF f ok K < K := by
 rcases pckF_in f ok K with h | ⟨k, h, h2, _⟩ <;> omega
section
variable {ms : List Mach} {ns : List NeedS}
theorem fstO_t {g : List Int} {i k : Nat} (h1 : hasK (ms.getD k default) (ns.getD i default).key = true) (h2 : cnt g k g.length < (ms.getD k default).feeders) : fstO ms ns g i k = true := by unfold fstO; rw [h1, decide_eq_true h2]; rfl
theorem fstO_f1 {g : List Int} {i k : Nat} (h1 : hasK (ms.getD k default) (ns.getD i default).key = false) : fstO ms ns g i k = false := by unfold fstO; rw [h1]; rfl
theorem fstO_f2 {g : List Int} {i k : Nat} (h2 : (ms.getD k default).feeders ≤ cnt g k g.length) : fstO ms ns g i k = false := by unfold fstO; rw [decide_eq_false (by omega)]; simp
theorem fstC_lt {g : List Int} {i k b : Nat} : fstC ms ns g i k < fstC ms ns g i b ↔ cyc ms ns g k g.length + (ms.getD k default).each * (ns.getD i default).count < cyc ms ns g b g.length + (ms.getD b default).each * (ns.getD i default).count := Iff.rfl
theorem cyc_bd (hM : MnOk ms ns) {pl : List Int} {k r : Nat} (h : r ≤ pl.length) : 0 ≤ cyc ms ns pl k r ∧ cyc ms ns pl k r ≤ 10000000 + 10000000000 * r := by
 rw [cyc_tim r h]; exact timB_in hM k _ r
def fstO2 (ns : List NeedS) (x y : Int) : Int := errsF [cmpI (ns.getD y.toNat default).count (ns.getD x.toNat default).count, cmpB (ns.getD x.toNat default).key (ns.getD y.toNat default).key]
theorem errs2 (a b : Int) : errsF [a, b] = if a = 0 then b else a := by
  by_cases h : a = 0
  · rw [if_pos h]
    by_cases h2 : b = 0
    · rw [h2]
      exact errsF_none fun j hj => by
        match j, hj with
        | 0, _ => exact h
        | 1, _ => rfl
    · exact errsF_at (q := 1) (by simp) (fun j hj => by obtain rfl : j = 0 := by omega
                                                        exact h) h2
  · rw [if_neg h]; exact errsF_at (q := 0) (by simp) (fun j hj => absurd hj (by omega)) h
theorem errs2_lt {a b : Int} (hb : ¬ b < 0) : errsF [a, b] < 0 ↔ a < 0 := by
 rw [errs2]; split <;> omega
theorem needs_asc (h : needsF ns 1 1000 = 0) : ∀ {j i : Nat}, i < j → j < ns.length → sLt (ns.getD i default).key (ns.getD j default).key = true
 | 0, _, hi, _ => absurd hi (Nat.not_lt_zero _)
 | j + 1, i, hi, hj => by
  have hl := needsF_len h
  have h0 := h
  rw [needsF, if_neg (by omega)] at h0
  have h1 := firstE_zero h0 (j + 1) hj
  rw [needE] at h1
  split at h1
  ·cases h1
  ·split at h1
   ·cases h1
   ·rename_i _ h2
    rw [Bool.and_eq_true, decide_eq_true_eq, Nat.add_sub_cancel] at h2
    have h3 : sLe (ns.getD (j + 1) default).key (ns.getD j default).key = false := Bool.eq_false_iff.2 fun e => h2 ⟨by omega, e⟩
    unfold sLe at h3
    rw [Bool.or_eq_false_iff] at h3
    have h4 : sLt (ns.getD j default).key (ns.getD (j + 1) default).key = true := sLt_total h3.1 (fun e => by rw [e, sEq_refl] at h3; cases h3.2)
    by_cases e : i = j
    ·subst e; exact h4
    ·exact sLt_trans (needs_asc h (i := i) (j := j) (by omega) (by omega)) h4
theorem fstL_code (h : needsF ns 1 1000 = 0) : insT (fstO2 ns) (idO ns.length) ((idO ns.length).length - 1) = fstL ns := by
 unfold fstL
 by_cases h0 : ns.length = 0
 ·rw [h0]; rfl
 ·refine (insT_idO (n := ns.length) (fun x y hy hyx hx => ?_) _ (by rw [idO_len]; omega)).1
  refine errs2_lt (fun hb => ?_)
  have h1 := needs_asc h (i := y.toNat) (j := x.toNat) (by omega) (by omega)
  have h2 := cmpB_lt (ns.getD x.toNat default).key (ns.getD y.toNat default).key
  rw [decide_eq_true hb, sLt_asym h1] at h2
  cases h2
def fstP (ms : List Mach) (ns : List NeedS) : List Int := if faultF ms ns = 0 then (fstR ms ns).getD [] else []
def fstK (ms : List Mach) (ns : List NeedS) : Bool := decide (faultF ms ns = 0) && (fstR ms ns).isSome
theorem fst_1 (h : faultF ms ns ≠ 0) : fstP ms ns = [] ∧ fstK ms ns = false := by unfold fstP fstK; rw [if_neg h, decide_eq_false h]; exact ⟨rfl, rfl⟩
theorem fst_2 (h : fstR ms ns = none) : fstP ms ns = [] ∧ fstK ms ns = false := by unfold fstP fstK; rw [h]; exact ⟨by split <;> rfl, by simp⟩
theorem fst_3 (h : faultF ms ns = 0) {r : List Int} (h2 : fstR ms ns = some r) : fstP ms ns = r ∧ fstK ms ns = true := by unfold fstP fstK; rw [if_pos h, h2, decide_eq_true h]; exact ⟨rfl, rfl⟩
end
theorem idO_mF {n : Nat} {x : Int} (h : x ∈ idO n) : 0 ≤ x ∧ x.toNat < n := by
 have := (idO_ord n).lt x h
 omega
set_option maxRecDepth 100000 in
theorem pdqC_int {l0 : List Int} {u : Value} {ty : TypeId} {F : FuncId} {cs : List AV} {c : Int → Int → Int} {k : Int} (hl : l0.length ≤ 12) (hcall : ∀ us w, (callFunc F us).run Tryz.prog w = .ok (.enter F us) w) (hF : ∀ x y, x ∈ l0 → y ∈ l0 → Spec Tryz.prog F ([avI x, avI y] ++ cs) (fun z => z = avI (c x y))) :
  SpecH Tryz.prog 171 [.v u, avI 0, avI l0.length, avI k, .fn F cs] [.row u l0.length 1 (intsL l0) ty] (fun y hp' => y = .tup [] ∧ hp' = [.row u l0.length 1 (intsL (insT c l0 (l0.length - 1))) ty]) := by
 refine SpecH.of_VC Tryz.func171 rfl Tryz.ntmps171 (Nle rfl) fun w A hB => ?_
 have hnew : True := trivial
 refine VC.sr ?_
 refine VO.ma rfl rfl rfl rfl ?_
 refine VO.nil ?_
 refine VC.sr ?_
 refine VO.ma rfl rfl rfl rfl ?_
 refine VO.nil ?_
 refine VC.block ?_
 refine VC.loopK [(0, _), (4, _)] ⟨rfl, rfl, trivial⟩ ({z : Nat // z = 0}) (fun (iZ : {z : Nat // z = 0}) => match iZ with | ⟨z, hz⟩ => [(1, avI 0), (2, avI l0.length), (3, avI k), (10, avB true), (11, avB true)]) (fun (iZ : {z : Nat // z = 0}) => match iZ with | ⟨z, hz⟩ => [.row u l0.length 1 (intsL l0) ty]) (fun (iZ : {z : Nat // z = 0}) => match iZ with | ⟨z, hz⟩ => 0) (fun (iZ : {z : Nat // z = 0}) => match iZ with | ⟨z, hz⟩ => z) ⟨0, rfl⟩ (Le.mk hB [0] ⟨rfl, rfl, rfl, rfl, rfl, rfl, rfl, trivial⟩ rfl rfl (Nat.le_refl _)) ?_
 rintro ⟨z, hz⟩
 show VC _ _ _ _ ⟨[(1, avI 0), (2, avI l0.length), (3, avI k), (10, avB true), (11, avB true)] ++ [(0, _), (4, _)], [.row u l0.length 1 (intsL l0) ty], 0⟩
 refine VC.block ?_
 refine VC.sr ?_
 refine VO.mv rfl rfl rfl rfl ?_
 refine VO.mv rfl rfl rfl rfl ?_
 refine VO.val rfl rfl (OpV.sub rfl rfl rfl (by unfold fits; omega)) ?_
 refine VO.ma rfl rfl rfl rfl ?_
 refine VO.nil ?_
 refine VC.seq ?_
 refine VC.sr ?_
 refine VO.mv rfl rfl rfl rfl ?_
 refine VO.val rfl rfl (OpV.leq rfl rfl rfl) ?_
 refine VO.nil ?_
 refine VC.cond rfl (fun aH1b => ?_) (fun aH1b => ?_)
 ·have aH1 := aH1b
  try simp only [qqT, qqF, qqN, qqM, qqL, qqE] at aH1
  refine VC.sr ?_
  refine VO.mv rfl rfl rfl rfl ?_
  refine VO.mv rfl rfl rfl rfl ?_
  refine VO.mv rfl rfl rfl rfl ?_
  refine VO.mv rfl rfl rfl rfl ?_
  refine VO.op rfl (OpE.callH0 rfl hB rfl Tryz.call243 rfl rfl (insSortC_int (by omega) hcall hF) (List.Perm.refl _) (fun _ _ => trivial) ?_)
  rintro _ _ ⟨rfl, rfl⟩
  refine VO.nil ?_
  refine VC.ret ?_
  exact Exists.intro _ (And.intro (RetV.none Tryz.results171) (⟨rfl, rfl⟩))
 ·have aH1 := aH1b
  try simp only [qqT, qqF, qqN, qqM, qqL, qqE] at aH1
  exact VC.absurd (by omega)
set_option maxRecDepth 100000 in
theorem sortFunc_int {l0 : List Int} {u : Value} {ty : TypeId} {F : FuncId} {cs : List AV} {c : Int → Int → Int} (hl : l0.length ≤ 12) (hcall : ∀ us w, (callFunc F us).run Tryz.prog w = .ok (.enter F us) w) (hF : ∀ x y, x ∈ l0 → y ∈ l0 → Spec Tryz.prog F ([avI x, avI y] ++ cs) (fun z => z = avI (c x y))) :
  SpecH Tryz.prog 73 [.v u, .fn F cs] [.row u l0.length 1 (intsL l0) ty] (fun y hp' => y = .tup [] ∧ hp' = [.row u l0.length 1 (intsL (insT c l0 (l0.length - 1))) ty]) := by
 refine SpecH.of_VC Tryz.func73 rfl Tryz.ntmps73 (Nle rfl) fun w A hB => ?_
 have hnew : True := trivial
 refine VC.sr ?_
 refine VO.mv rfl rfl rfl rfl ?_
 refine VO.val rfl rfl (OpV.len_row (i := 0) rfl Tryz.underlying22 rfl rfl) ?_
 refine VO.ma rfl rfl rfl rfl ?_
 refine VO.nil ?_
 refine VC.region ?_
 refine VO.mv rfl rfl rfl rfl ?_
 refine VO.mv rfl rfl rfl rfl ?_
 refine VO.mv rfl rfl rfl rfl ?_
 refine VO.val rfl rfl (OpV.conv rfl Tryz.underlying3 Tryz.underlying160 rfl (IntWalk.u64_in _ (by omega))) ?_
 refine VO.op rfl (OpE.call rfl hB rfl Tryz.call104 rfl (SpecN.spec (bits_Len_S (x := (l0.length : Int)) (by omega) (by omega))) ?_)
 rintro _ ⟨k, rfl⟩
 refine VO.mv rfl rfl rfl rfl ?_
 refine VO.op rfl (OpE.callH0 rfl hB rfl Tryz.call171 rfl rfl (pdqC_int hl hcall hF) (List.Perm.refl _) (fun _ _ => trivial) ?_)
 rintro _ _ ⟨rfl, rfl⟩
 refine VO.nil ?_
 exact Exists.intro _ (And.intro (RetV.none Tryz.results73) (⟨rfl, rfl⟩))
set_option maxRecDepth 100000 in
theorem line_First1 {ns : List NeedS} {i j : Int} (hl : ns.length ≤ 1000) (hx : 0 ≤ i ∧ i.toNat < ns.length) (hy : 0 ≤ j ∧ j.toNat < ns.length) :
  Spec Tryz.prog 74 [avI i, avI j, .at_ 1 (fun _ => avL ns)] (fun y => y = avI (fstO2 ns i j)) := by
 refine Spec.of_VC Tryz.func74 rfl Tryz.ntmps74 (Nle rfl) fun w A hB => ?_
 have hnew : True := trivial
 refine VC.sr ?_
 refine VO.ma rfl rfl rfl rfl ?_
 refine VO.nil ?_
 refine VC.seq ?_
 refine VC.draw (fun _ => NoB) hB (by kernel_rfl) ?_
 refine VA.take (i := 0) rfl (by kernel_rfl) (by kernel_rfl) (by kernel_rfl) rfl rfl (OpV.load_at rfl hB OutW.wi0 Tryz.isAgg28 rfl rfl) ?_
 refine VA.take (i := 1) rfl (by kernel_rfl) (by kernel_rfl) (by kernel_rfl) rfl rfl (OpV.move (.inl rfl) rfl) ?_
 refine VA.take (i := 2) rfl (by kernel_rfl) (by kernel_rfl) (by kernel_rfl) rfl rfl (OpV.indexAddr_E rfl Tryz.underlying28 Tryz.sizeOf111 rfl rfl (Int.toNat_of_nonneg hy.1).symm (by omega)) ?_
 refine VA.take (i := 3) rfl (by kernel_rfl) (by kernel_rfl) (by kernel_rfl) rfl rfl (OpV.fieldAddr_atO 1 rfl Tryz.underlying111 rfl rfl Tryz.sizeOf3 rfl rfl) ?_
 refine VA.take (i := 4) rfl (by kernel_rfl) (by kernel_rfl) (by kernel_rfl) rfl rfl (OpV.load_at rfl hB OutW.wi0 Tryz.isAgg3 rfl rfl) ?_
 refine VA.take (i := 5) rfl (by kernel_rfl) (by kernel_rfl) (by kernel_rfl) rfl rfl (OpV.load_at rfl hB OutW.wi0 Tryz.isAgg28 rfl rfl) ?_
 refine VA.take (i := 6) rfl (by kernel_rfl) (by kernel_rfl) (by kernel_rfl) rfl rfl (OpV.move (.inl rfl) rfl) ?_
 refine VA.take (i := 7) rfl (by kernel_rfl) (by kernel_rfl) (by kernel_rfl) rfl rfl (OpV.indexAddr_E rfl Tryz.underlying28 Tryz.sizeOf111 rfl rfl (Int.toNat_of_nonneg hx.1).symm (by omega)) ?_
 refine VA.take (i := 8) rfl (by kernel_rfl) (by kernel_rfl) (by kernel_rfl) rfl rfl (OpV.fieldAddr_atO 1 rfl Tryz.underlying111 rfl rfl Tryz.sizeOf3 rfl rfl) ?_
 refine VA.take (i := 9) rfl (by kernel_rfl) (by kernel_rfl) (by kernel_rfl) rfl rfl (OpV.load_at rfl hB OutW.wi0 Tryz.isAgg3 rfl rfl) ?_
 refine VA.take (i := 11) rfl (by kernel_rfl) (by kernel_rfl) (by kernel_rfl) rfl rfl (OpV.load_at rfl hB OutW.wi0 Tryz.isAgg28 rfl rfl) ?_
 refine VA.take (i := 12) rfl (by kernel_rfl) (by kernel_rfl) (by kernel_rfl) rfl rfl (OpV.move (.inl rfl) rfl) ?_
 refine VA.take (i := 13) rfl (by kernel_rfl) (by kernel_rfl) (by kernel_rfl) rfl rfl (OpV.indexAddr_E rfl Tryz.underlying28 Tryz.sizeOf111 rfl rfl (Int.toNat_of_nonneg hx.1).symm (by omega)) ?_
 refine VA.take (i := 14) rfl (by kernel_rfl) (by kernel_rfl) (by kernel_rfl) rfl rfl (OpV.fieldAddr_atO 0 rfl Tryz.underlying111 rfl rfl Tryz.sizeOf9 rfl rfl) ?_
 refine VA.take (i := 15) rfl (by kernel_rfl) (by kernel_rfl) (by kernel_rfl) rfl rfl (OpV.load_at rfl hB OutW.wi0 Tryz.isAgg9 rfl rfl) ?_
 refine VA.take (i := 16) rfl (by kernel_rfl) (by kernel_rfl) (by kernel_rfl) rfl rfl (OpV.load_at rfl hB OutW.wi0 Tryz.isAgg28 rfl rfl) ?_
 refine VA.take (i := 17) rfl (by kernel_rfl) (by kernel_rfl) (by kernel_rfl) rfl rfl (OpV.move (.inl rfl) rfl) ?_
 refine VA.take (i := 18) rfl (by kernel_rfl) (by kernel_rfl) (by kernel_rfl) rfl rfl (OpV.indexAddr_E rfl Tryz.underlying28 Tryz.sizeOf111 rfl rfl (Int.toNat_of_nonneg hy.1).symm (by omega)) ?_
 refine VA.take (i := 19) rfl (by kernel_rfl) (by kernel_rfl) (by kernel_rfl) rfl rfl (OpV.fieldAddr_atO 0 rfl Tryz.underlying111 rfl rfl Tryz.sizeOf9 rfl rfl) ?_
 refine VA.take (i := 20) rfl (by kernel_rfl) (by kernel_rfl) (by kernel_rfl) rfl rfl (OpV.load_at rfl hB OutW.wi0 Tryz.isAgg9 rfl rfl) ?_
 refine VA.all (rs := [10]) (by kernel_rfl) (by decide) ?_
 refine ⟨⟨_, rfl, .inl rfl, ?_⟩, trivial⟩
 refine OpE.call rfl hB rfl Tryz.call76 rfl (SpecN.spec (cmp_Compare_int)) ?_
 rintro _ rfl
 refine VA.all (rs := [21]) (by kernel_rfl) (by decide) ?_
 refine ⟨⟨_, rfl, .inl rfl, ?_⟩, trivial⟩
 refine OpE.call rfl hB rfl Tryz.call77 rfl (SpecN.spec (strings_Compare_S)) ?_
 rintro _ rfl
 refine VA.all (rs := [22]) (by kernel_rfl) (by decide) ?_
 refine ⟨⟨_, rfl, .inl rfl, ?_⟩, trivial⟩
 refine OpE.buildSlice (zc := #[.int .i64 0, .int .i64 0]) rfl hB rfl Tryz.underlying22 Tryz.sizeOf3 Tryz.zeroValue3 (by decide) (by decide) (by kernel_rfl) rfl rfl ?_
 refine VA.le _ (Le.lits (t := 28) (xs := [cmpI (ns.getD j.toNat default).count (ns.getD i.toNat default).count, cmpB (ns.getD i.toNat default).key (ns.getD j.toNat default).key]) rfl rfl) ?_
 refine VA.all (rs := [23]) (by kernel_rfl) (by decide) ?_
 refine ⟨⟨_, rfl, .inl rfl, ?_⟩, trivial⟩
 refine OpE.call rfl hB rfl Tryz.call75 rfl (SpecN.spec (cmp_Or_int (by simp))) ?_
 rintro _ rfl
 refine VA.take (i := 24) rfl (by kernel_rfl) (by kernel_rfl) (by kernel_rfl) rfl rfl (OpV.move (.inr rfl) rfl) ?_
 refine VA.done (by kernel_rfl) ?_
 refine VC.ret ?_
 exact Exists.intro _ (And.intro (RetV.one Tryz.results74 (ResV.tmp rfl)) (rfl))
set_option maxRecDepth 100000 in
theorem line_cycles_R {ms : List Mach} {ns : List NeedS} {plan : List Int} (hm : machF ms = 0) (hn : needsF ns 1 1000 = 0) (hp : planF ms ns plan = 0) :
  SpecR Tryz.prog 78 [avL ms, avL ns, avInts plan] ms.length 1 (intsL (cycL ms ns plan)) 3 := by
 have hlen := machF_len hm
 have hnl := needsF_len hn
 obtain ⟨hpl, he⟩ := planF_zero hp
 refine SpecR.of_VC Tryz.func78 rfl Tryz.ntmps78 (Nle rfl) (by first | exact flat_ints _ | exact flat_strs _ | exact flat_bools _) fun w A hB => ?_
 have hnew : True := trivial
 refine VC.sr ?_
 refine VO.ma rfl rfl rfl rfl ?_
 refine VO.nil ?_
 refine VC.sr ?_
 refine VO.mv rfl rfl rfl rfl ?_
 refine VO.val rfl rfl (OpV.len_im rfl Tryz.underlying26 rfl) ?_
 refine VO.op rfl (OpE.make rfl hB rfl Tryz.underlying22 (infoOf Tryz.t3 1 (by kernel_rfl) rfl rfl) (by decide) rfl rfl (n := ms.length) rfl rfl (by omega) (made_ints _) ?_)
 intro g14
 rw [intsL_len, List.length_replicate]
 refine VO.ma rfl rfl rfl rfl ?_
 refine VO.nil ?_
 refine VC.seq ?_
 refine VC.sr ?_
 refine VO.mv rfl rfl rfl rfl ?_
 refine VO.val rfl rfl (OpV.len_im rfl Tryz.underlying26 rfl) ?_
 refine VO.mv rfl rfl rfl rfl ?_
 refine VO.nil ?_
 refine VC.block ?_
 refine VC.loopK [] trivial ({q : Nat // q ≤ ms.length}) (fun (iZ : {q : Nat // q ≤ ms.length}) => match iZ with | ⟨q, hq⟩ => [(0, avL ms), (1, avL ns), (2, avInts plan), (7, .v (.slice (some ⟨g14, 0, none⟩) ms.length ms.length)), (15, avL ms), (16, avI ms.length), (17, avI (q : Int))]) (fun (iZ : {q : Nat // q ≤ ms.length}) => match iZ with | ⟨q, hq⟩ => [.box g14 ⟨intsL (tabI ms.length (fun k => if k < q then (ms.getD k default).fixed else 0)), 3, ms.length⟩]) (fun (iZ : {q : Nat // q ≤ ms.length}) => match iZ with | ⟨q, hq⟩ => 0) (fun (iZ : {q : Nat // q ≤ ms.length}) => match iZ with | ⟨q, hq⟩ => ms.length - q) ⟨0, Nat.zero_le _⟩ (Le.mk hB [0] ⟨rfl, rfl, rfl, rfl, rfl, rfl, rfl, trivial⟩ rfl (by rw [tabI_rep]; rfl) (Nat.le_refl _)) ?_
 rintro ⟨q, hq⟩
 show VC _ _ _ _ ⟨[(0, avL ms), (1, avL ns), (2, avInts plan), (7, .v (.slice (some ⟨g14, 0, none⟩) ms.length ms.length)), (15, avL ms), (16, avI ms.length), (17, avI (q : Int))] ++ [], [.box g14 ⟨intsL (tabI ms.length (fun k => if k < q then (ms.getD k default).fixed else 0)), 3, ms.length⟩], 0⟩
 refine VC.sr ?_
 refine VO.val rfl rfl (OpV.lss rfl rfl rfl) ?_
 refine VO.nil ?_
 refine VC.seq ?_
 refine VC.cond rfl (fun aH1b => ?_) (fun aH1b => ?_)
 ·have aH1 := aH1b
  try simp only [qqT, qqF, qqN, qqM, qqL, qqE] at aH1
  refine VC.skip ?_
  refine VC.seq ?_
  refine VC.block ?_
  refine VC.sr ?_
  refine VO.mv rfl rfl rfl rfl ?_
  refine VO.val rfl rfl (OpV.indexAddr_E rfl Tryz.underlying26 Tryz.sizeOf106 rfl rfl rfl (by omega)) ?_
  refine VO.val rfl rfl (OpV.loadK_at rfl hB OutW.no Tryz.isAgg106 Tryz.sizeOf106 rfl rfl) ?_
  refine VO.op rfl (OpE.alloc rfl hB rfl Tryz.zeroValue106 rfl ?_)
  intro g9
  refine VO.ma rfl rfl rfl rfl ?_
  refine VO.op rfl (OpE.store (i := 1) rfl hB rfl Tryz.sizeOf106 rfl rfl rfl rfl rfl rfl (Nle rfl) trivial ?_)
  refine VO.nil ?_
  refine VC.region ?_
  refine VO.mv rfl rfl rfl rfl ?_
  refine VO.mv rfl rfl rfl rfl ?_
  refine VO.val rfl rfl (OpV.fieldAddrO 2 rfl Tryz.underlying106 rfl rfl Tryz.sizeOf3 rfl) ?_
  refine VO.val rfl rfl (OpV.load_own (i := 1) rfl hB Tryz.isAgg3 rfl rfl rfl (fun h => h)) ?_
  refine VO.val rfl rfl (OpV.indexAddr_o rfl Tryz.underlying22 Tryz.sizeOf3 rfl rfl rfl (by omega)) ?_
  refine VO.op rfl (OpE.store1 (i := 0) rfl hB rfl Tryz.sizeOf3 rfl rfl rfl rfl rfl rfl (by rw [intsL_len, tabI_len]; omega) ((intsL_set _ _ _).trans (congrArg intsL (tabI_set' (g := fun k => if k < q + 1 then (ms.getD k default).fixed else 0) (by rw [if_pos (by omega)]) (fun j hj hne => if_step hne)))) trivial ?_)
  refine VO.nil ?_
  refine VC.region ?_
  refine VO.val rfl rfl (OpV.add rfl rfl rfl (by unfold fits; omega)) ?_
  refine VO.mv rfl rfl rfl rfl ?_
  refine VO.nil ?_
  exact Exists.intro (⟨q + 1, by omega⟩) (And.intro (Le.mk hB [0] ⟨rfl, rfl, rfl, rfl, rfl, rfl, rfl, trivial⟩ rfl rfl (Nat.le_refl _)) (by first | omega | (show _ < _; omega) | (simp only []; omega)))
 ·have aH1 := aH1b
  try simp only [qqT, qqF, qqN, qqM, qqL, qqE] at aH1
  refine VC.exit ?_
  refine VC.seq ?_
  refine VC.sr ?_
  refine VO.mv rfl rfl rfl rfl ?_
  refine VO.val rfl rfl (OpV.len_im rfl Tryz.underlying22 rfl) ?_
  refine VO.mv rfl rfl rfl rfl ?_
  refine VO.nil ?_
  refine VC.block ?_
  refine VC.loopK [] trivial ({r : Nat // r ≤ plan.length}) (fun (iZ : {r : Nat // r ≤ plan.length}) => match iZ with | ⟨r, hr⟩ => [(0, avL ms), (1, avL ns), (7, .v (.slice (some ⟨g14, 0, none⟩) ms.length ms.length)), (28, avInts plan), (29, avI plan.length), (30, avI (r : Int))]) (fun (iZ : {r : Nat // r ≤ plan.length}) => match iZ with | ⟨r, hr⟩ => [.box g14 ⟨intsL (tabI ms.length (fun k => cyc ms ns plan k r)), 3, ms.length⟩]) (fun (iZ : {r : Nat // r ≤ plan.length}) => match iZ with | ⟨r, hr⟩ => 0) (fun (iZ : {r : Nat // r ≤ plan.length}) => match iZ with | ⟨r, hr⟩ => plan.length - r) ⟨0, Nat.zero_le _⟩ (Le.mk hB [0] ⟨rfl, rfl, rfl, rfl, rfl, rfl, trivial⟩ rfl (congrArg (fun z => [Ent.box g14 ⟨intsL z, 3, ms.length⟩]) (tabI_congr fun k hk => by rw [if_pos (by omega)]; rfl)) (Nat.le_refl _)) ?_
  rintro ⟨r, hr⟩
  show VC _ _ _ _ ⟨[(0, avL ms), (1, avL ns), (7, .v (.slice (some ⟨g14, 0, none⟩) ms.length ms.length)), (28, avInts plan), (29, avI plan.length), (30, avI (r : Int))] ++ [], [.box g14 ⟨intsL (tabI ms.length (fun k => cyc ms ns plan k r)), 3, ms.length⟩], 0⟩
  refine VC.sr ?_
  refine VO.val rfl rfl (OpV.lss rfl rfl rfl) ?_
  refine VO.nil ?_
  refine VC.seq ?_
  refine VC.cond rfl (fun aH2b => ?_) (fun aH2b => ?_)
  ·have aH2 := aH2b
   try simp only [qqT, qqF, qqN, qqM, qqL, qqE] at aH2
   obtain ⟨k, hk1, hk2⟩ := planE_ok (he r (by omega))
   have hcy := cyc_in (plan := plan) hm hn hk2 (r := r) (by omega)
   have hmu := mul_in (machF_each hm hk2).1.1 (needsF_count hn (i := r) (by omega))
   refine VC.skip ?_
   refine VC.seq ?_
   refine VC.block ?_
   refine VC.sr ?_
   refine VO.mv rfl rfl rfl rfl ?_
   refine VO.val rfl rfl (OpV.indexAddr_1 rfl Tryz.underlying22 Tryz.sizeOf3 rfl rfl rfl (by omega)) ?_
   refine VO.val rfl rfl (OpV.load_at rfl hB OutW.no Tryz.isAgg3 rfl rfl) ?_
   refine VO.ma rfl rfl rfl rfl ?_
   refine VO.ma rfl rfl rfl rfl ?_
   refine VO.nil ?_
   refine VC.draw (fun j b => j = 17 ∧ b = g14) hB (by kernel_rfl) ?_
   refine VA.take (i := 0) rfl (by kernel_rfl) (by kernel_rfl) (by kernel_rfl) rfl rfl (OpV.move (.inl rfl) rfl) ?_
   refine VA.take (i := 1) rfl (by kernel_rfl) (by kernel_rfl) (by kernel_rfl) rfl rfl (OpV.move (.inl rfl) rfl) ?_
   refine VA.take (i := 2) rfl (by kernel_rfl) (by kernel_rfl) (by kernel_rfl) rfl rfl (OpV.indexAddr_o rfl Tryz.underlying22 Tryz.sizeOf3 rfl rfl hk1 (by omega)) ?_
   refine VA.take (i := 3) rfl (by kernel_rfl) (by kernel_rfl) (by kernel_rfl) rfl rfl (OpV.load_own (i := 0) rfl hB Tryz.isAgg3 rfl rfl (intsT_get hk2) (by first | exact Wi.not1 (by kernel_rfl) | exact Wi.not2 (by kernel_rfl) (by kernel_rfl) | exact Wi.notX (by kernel_rfl))) ?_
   refine VA.take (i := 4) rfl (by kernel_rfl) (by kernel_rfl) (by kernel_rfl) rfl rfl (OpV.move (.inl rfl) rfl) ?_
   refine VA.take (i := 5) rfl (by kernel_rfl) (by kernel_rfl) (by kernel_rfl) rfl rfl (OpV.move (.inl rfl) rfl) ?_
   refine VA.take (i := 6) rfl (by kernel_rfl) (by kernel_rfl) (by kernel_rfl) rfl rfl (OpV.indexAddr_E rfl Tryz.underlying26 Tryz.sizeOf106 rfl rfl hk1 (by omega)) ?_
   refine VA.take (i := 7) rfl (by kernel_rfl) (by kernel_rfl) (by kernel_rfl) rfl rfl (OpV.fieldAddr_atO 1 rfl Tryz.underlying106 rfl rfl Tryz.sizeOf3 rfl rfl) ?_
   refine VA.take (i := 8) rfl (by kernel_rfl) (by kernel_rfl) (by kernel_rfl) rfl rfl (OpV.load_at rfl hB (by first | exact OutW.wi1 (k := 0) rfl rfl) Tryz.isAgg3 rfl rfl) ?_
   refine VA.take (i := 9) rfl (by kernel_rfl) (by kernel_rfl) (by kernel_rfl) rfl rfl (OpV.move (.inl rfl) rfl) ?_
   refine VA.take (i := 10) rfl (by kernel_rfl) (by kernel_rfl) (by kernel_rfl) rfl rfl (OpV.move (.inl rfl) rfl) ?_
   refine VA.take (i := 11) rfl (by kernel_rfl) (by kernel_rfl) (by kernel_rfl) rfl rfl (OpV.indexAddr_E rfl Tryz.underlying28 Tryz.sizeOf111 rfl rfl rfl (by omega)) ?_
   refine VA.take (i := 12) rfl (by kernel_rfl) (by kernel_rfl) (by kernel_rfl) rfl rfl (OpV.fieldAddr_atO 1 rfl Tryz.underlying111 rfl rfl Tryz.sizeOf3 rfl rfl) ?_
   refine VA.take (i := 13) rfl (by kernel_rfl) (by kernel_rfl) (by kernel_rfl) rfl rfl (OpV.load_at rfl hB (by first | exact OutW.wi1 (k := 0) rfl rfl) Tryz.isAgg3 rfl rfl) ?_
   refine VA.take (i := 14) rfl (by kernel_rfl) (by kernel_rfl) (by kernel_rfl) rfl rfl (OpV.mul rfl rfl rfl (by unfold fits; omega)) ?_
   refine VA.take (i := 15) rfl (by kernel_rfl) (by kernel_rfl) (by kernel_rfl) rfl rfl (OpV.add rfl rfl rfl (by unfold fits; omega)) ?_
   refine VA.take (i := 16) rfl (by kernel_rfl) (by kernel_rfl) (by kernel_rfl) rfl rfl (OpV.indexAddr_o rfl Tryz.underlying22 Tryz.sizeOf3 rfl rfl hk1 (by omega)) ?_
   refine VA.all (rs := [17]) (by kernel_rfl) (by decide) ?_
   refine ⟨⟨_, rfl, .inl rfl, ?_⟩, trivial⟩
   refine OpE.store1 (i := 0) rfl hB rfl Tryz.sizeOf3 rfl rfl rfl rfl rfl rfl (by rw [intsL_len, tabI_len]; exact hk2) ((intsL_set _ _ _).trans (congrArg intsL (tabI_set' (g := fun j => cyc ms ns plan j (r + 1)) (by rw [cyc, if_pos hk1]) (fun j hj hne => by rw [cyc, if_neg (by rw [hk1]; omega)])))) (by first | exact ⟨rfl, rfl⟩ | exact .inl ⟨rfl, rfl⟩ | exact .inr ⟨rfl, rfl⟩ | exact ⟨rfl, trivial⟩ | exact .inl ⟨rfl, trivial⟩ | exact .inr ⟨rfl, trivial⟩ | exact ⟨by decide, rfl⟩) ?_
   refine VA.done (by kernel_rfl) ?_
   refine VC.region ?_
   refine VO.val rfl rfl (OpV.add rfl rfl rfl (by unfold fits; omega)) ?_
   refine VO.mv rfl rfl rfl rfl ?_
   refine VO.nil ?_
   exact Exists.intro (⟨r + 1, by omega⟩) (And.intro (Le.mk hB [0] ⟨rfl, rfl, rfl, rfl, rfl, rfl, trivial⟩ rfl rfl (Nat.le_refl _)) (by first | omega | (show _ < _; omega) | (simp only []; omega)))
  ·have aH2 := aH2b
   try simp only [qqT, qqF, qqN, qqM, qqL, qqE] at aH2
   refine VC.exit ?_
   refine VC.sr ?_
   refine VO.mv rfl rfl rfl rfl ?_
   refine VO.ma rfl rfl rfl rfl ?_
   refine VO.nil ?_
   obtain rfl : r = plan.length := by omega
   refine VC.le _ (Le.boxRow (i := 0) (n := ms.length) (cap := ms.length) (sz := 1) (by rw [Nat.mul_one]; rfl) (by rw [intsL_len, tabI_len, Nat.mul_one]) (Nat.le_refl _) (capM (by omega))) ?_
   refine VC.ret ?_
   exact Exists.intro _ (And.intro (RetV.one Tryz.results78 (ResV.tmp rfl)) (⟨_, rfl, List.Mem.head _⟩))
theorem planF_nil {ms : List Mach} (hm : machF ms = 0) : planF ms [] [] = 0 := planF_0 rfl (fun j hj => absurd hj (Nat.not_lt_zero j)) (fun k hk => by show (0 : Int) ≤ _; exact (machF_each hm hk).1.2.2.1)
theorem needsF_nil : needsF [] 1 1000 = 0 := by decide
theorem cycL_fix (ms : List Mach) (ns : List NeedS) : cycL ms [] [] = tabI ms.length fun k => cyc ms ns (List.replicate ns.length (-1)) k (List.replicate ns.length (-1)).length := tabI_congr fun k hk => by
 rw [List.length_replicate, cyc_none _ _ _ (Nat.le_refl _)]; rfl
theorem cnt_fix (ms : List Mach) (n : Nat) : List.replicate ms.length (0 : Int) = tabI ms.length fun k => cnt (List.replicate n (-1)) k (List.replicate n (-1)).length := by
 rw [tabI_rep]
 exact tabI_congr fun k hk => by rw [List.length_replicate, cnt_none _ _ _ (Nat.le_refl _)]
set_option maxRecDepth 100000 in
set_option maxHeartbeats 16000000 in
theorem line_FirstX {ms : List Mach} {ns : List NeedS} (hm : SmallM ms) (hn : SmallN ns) (hn0 : ns.length ≤ 1000) (hsort : needsF ns 1 1000 = 0 → ∀ u, SpecH Tryz.prog 73 [.v u, .fn 74 [.at_ 1 (fun _ => avL ns)]] [.row u (idO ns.length).length 1 (intsL (idO ns.length)) 3] (fun y hp' => y = .tup [] ∧ hp' = [.row u (idO ns.length).length 1 (intsL (insT (fstO2 ns) (idO ns.length) ((idO ns.length).length - 1))) 3])) :
    Spec Tryz.prog 13 [avL ms, avL ns] (fun y => y = .tup [avInts (fstP ms ns), avB (fstK ms ns), avI (faultF ms ns)]) := by
  refine Spec.of_VC Tryz.func13 rfl Tryz.ntmps13 (Nle rfl) fun w A hB => ?_
  have hnew : True := trivial
  refine VC.sr ?_
  refine VO.op rfl (OpE.box rfl hB rfl rfl rfl ?_)
  intro g3
  refine VO.ma rfl rfl rfl rfl ?_
  refine VO.ma rfl rfl rfl rfl ?_
  refine VO.ma rfl rfl rfl rfl ?_
  refine VO.nil ?_
  refine VC.seq ?_
  refine VC.seq ?_
  refine VC.le _ (Le.freezeAt (t := 3) (m := 1) (f := fun _ => avL ns) (i := 0) rfl rfl (Nat.le_refl _) (fun w Z u h => h.at_congr (g := fun _ => avL ns) (fun j hj => by rcases j with _ | j <;> first | rfl | omega)) hnew hB) ?_
  refine VC.region ?_
  refine VO.mv rfl rfl rfl rfl ?_
  refine VO.val rfl rfl (OpV.load_at rfl hB OutW.no Tryz.isAgg28 rfl rfl) ?_
  refine VO.op rfl (OpE.call rfl hB rfl Tryz.call71 rfl (SpecN.spec (line_fault hm.l hm.k hm.c hm.s hn.l hn.k)) ?_)
  rintro _ rfl
  refine VO.ma rfl rfl rfl rfl ?_
  refine VO.nil ?_
  refine VC.sr ?_
  refine VO.mv rfl rfl rfl rfl ?_
  refine VO.val rfl rfl (OpV.neq rfl rfl rfl) ?_
  refine VO.nil ?_
  refine VC.cond rfl (fun h0b => ?_) (fun h0b => ?_)
  · have h0 := h0b
    try simp only [qqT, qqF, qqN, qqM, qqL, qqE] at h0
    refine VC.sr ?_
    refine VO.mv rfl rfl rfl rfl ?_
    refine VO.ma rfl rfl rfl rfl ?_
    refine VO.ma rfl rfl rfl rfl ?_
    refine VO.ma rfl rfl rfl rfl ?_
    refine VO.nil ?_
    refine VC.le _ (Le.recast (t := 4) (y := avInts []) rfl (fun w Z u h => by rw [h.eq_v]; exact .nil _ _)) ?_
    refine VC.ret ?_
    exact Exists.intro _ (And.intro (RetV.three Tryz.results13 (ResV.tmp rfl) (ResV.tmp rfl) (ResV.tmp rfl)) (by rw [(fst_1 h0).1, (fst_1 h0).2]))
  · have h0 := h0b
    try simp only [qqT, qqF, qqN, qqM, qqL, qqE] at h0
    have hf0 : faultF ms ns = 0 := by omega
    obtain ⟨hmf, hnf⟩ := faultF_0 hf0
    have hM := MnOk.mk' hmf hnf
    have hlen := machF_len hmf
    refine VC.skip ?_
    refine VC.sr ?_
    refine VO.ma rfl rfl rfl rfl ?_
    refine VO.nil ?_
    refine VC.seq ?_
    refine VC.sr ?_
    refine VO.val rfl rfl (OpV.load_at rfl hB OutW.no Tryz.isAgg28 rfl rfl) ?_
    refine VO.val rfl rfl (OpV.len_im rfl Tryz.underlying28 rfl) ?_
    refine VO.mv rfl rfl rfl rfl ?_
    refine VO.nil ?_
    refine VC.block ?_
    refine VC.le _ (Le.nilRow 1 3) ?_
    refine VC.loopK [(0, _), (3, _), (25, _)] ⟨rfl, rfl, rfl, trivial⟩ ({t : Value × Nat // t.2 ≤ ns.length}) (fun (iZ : {t : Value × Nat // t.2 ≤ ns.length}) => match iZ with | ⟨⟨u, q⟩, hq⟩ => [(8, .v u), (26, avI (q : Int))]) (fun (iZ : {t : Value × Nat // t.2 ≤ ns.length}) => match iZ with | ⟨⟨u, q⟩, hq⟩ => [.row u (idO q).length 1 (intsL (idO q)) 3]) (fun (iZ : {t : Value × Nat // t.2 ≤ ns.length}) => match iZ with | ⟨⟨u, q⟩, hq⟩ => 0) (fun (iZ : {t : Value × Nat // t.2 ≤ ns.length}) => match iZ with | ⟨⟨u, q⟩, hq⟩ => ns.length - q) ⟨(.slice none 0 0, 0), Nat.zero_le _⟩ (Le.mk hB [0] ⟨rfl, rfl, rfl, rfl, rfl, trivial⟩ rfl rfl (Nat.le_refl _)) ?_
    rintro ⟨⟨u, q⟩, hq⟩
    show VC _ _ _ _ ⟨[(8, .v u), (26, avI (q : Int))] ++ [(0, _), (3, _), (25, _)], [.row u (idO q).length 1 (intsL (idO q)) 3], 0⟩
    simp only at hq
    refine VC.sr ?_
    refine VO.val rfl rfl (OpV.lss rfl rfl rfl) ?_
    refine VO.nil ?_
    refine VC.seq ?_
    refine VC.cond rfl (fun aH1b => ?_) (fun aH1b => ?_)
    · have aH1 := aH1b
      try simp only [qqT, qqF, qqN, qqM, qqL, qqE] at aH1
      refine VC.skip ?_
      refine VC.seq ?_
      refine VC.block ?_
      refine VC.sr ?_
      refine VO.mv rfl rfl rfl rfl ?_
      refine VO.ma rfl rfl rfl rfl ?_
      refine VO.nil ?_
      refine VC.region ?_
      refine VO.mv rfl rfl rfl rfl ?_
      refine VO.mv rfl rfl rfl rfl ?_
      refine VO.op rfl (OpE.buildSlice (zc := #[.int .i64 0]) rfl hB rfl Tryz.underlying22 Tryz.sizeOf3 Tryz.zeroValue3 (by decide) (by decide) (by kernel_rfl) rfl rfl ?_)
      refine VO.op rfl (OpE.append1 (i := 0) rfl hB rfl Tryz.underlying22 (infoOf Tryz.t3 1 (by kernel_rfl) rfl rfl) rfl (by decide) (by decide) rfl rfl rfl rfl ((intsL_snoc _ _).trans (congrArg intsL (idO_succ q).symm)) (by rw [idO_len]; omega) (fun _ _ => trivial) ?_)
      intro u32
      refine VO.ma rfl rfl rfl rfl ?_
      refine VO.nil ?_
      refine VC.region ?_
      refine VO.val rfl rfl (OpV.add rfl rfl rfl (by unfold fits; omega)) ?_
      refine VO.mv rfl rfl rfl rfl ?_
      refine VO.nil ?_
      exact Exists.intro (⟨(u32, q + 1), by show q + 1 ≤ ns.length; omega⟩) (And.intro (Le.mk hB [0] ⟨rfl, rfl, rfl, rfl, rfl, trivial⟩ rfl (by dsimp only; simp only [idO_len]; rfl) (Nat.le_refl _)) (by first | omega | (show _ < _; omega) | (simp only []; omega)))
    · have aH1 := aH1b
      try simp only [qqT, qqF, qqN, qqM, qqL, qqE] at aH1
      refine VC.exit ?_
      refine VC.seq ?_
      obtain rfl : q = ns.length := by omega
      refine VC.region ?_
      refine VO.mv rfl rfl rfl rfl ?_
      refine VO.val rfl rfl (OpV.makeFuncF1 rfl rfl) ?_
      refine VO.op rfl (OpE.callH0 rfl hB rfl Tryz.call73 rfl rfl (hsort hnf _) (List.Perm.refl _) (fun _ _ => trivial) ?_)
      rintro _ _ ⟨rfl, rfl⟩
      refine VO.nil ?_
      refine VC.seq ?_
      rw [fstL_code hnf]
      refine VC.le _ (Le.rowI (t := 8) (i := 0) (xs := fstL ns) hB hnew rfl rfl (by rw [idO_len, (fstL_perm ns).length_eq, idO_len])) ?_
      refine VC.draw (fun _ => NoB) hB (by kernel_rfl) ?_
      refine VA.take (i := 0) rfl (by kernel_rfl) (by kernel_rfl) (by kernel_rfl) rfl rfl (OpV.move (.inl rfl) rfl) ?_
      refine VA.take (i := 2) rfl (by kernel_rfl) (by kernel_rfl) (by kernel_rfl) rfl rfl (OpV.move (.inl rfl) rfl) ?_
      refine VA.take (i := 3) rfl (by kernel_rfl) (by kernel_rfl) (by kernel_rfl) rfl rfl (OpV.len_im rfl Tryz.underlying26 rfl) ?_
      refine VA.all (rs := [1, 4]) (by kernel_rfl) (by decide) ?_
      refine ⟨⟨_, rfl, .inl rfl, ?_⟩, ⟨_, rfl, .inl rfl, ?_⟩, trivial⟩
      ·
        refine OpE.callR rfl hB rfl Tryz.call78 (line_cycles_R (ns := []) (plan := []) hmf needsF_nil (planF_nil hmf)) (ArgsP.cons (ArgP.ev rfl) (ArgsP.cons (ArgP.nil rfl) (ArgsP.cons (ArgP.nil rfl) (ArgsP.nil)))) ?_
        intro u38
        refine VA.take (i := 5) rfl (by kernel_rfl) (by kernel_rfl) (by kernel_rfl) rfl rfl (OpV.move (.inr rfl) rfl) ?_
        refine VA.all (rs := [4]) (by kernel_rfl) (by decide) ?_
        refine ⟨⟨_, rfl, .inl rfl, ?_⟩, trivial⟩
        refine OpE.make rfl hB rfl Tryz.underlying22 (infoOf Tryz.t3 1 (by kernel_rfl) rfl rfl) (by decide) rfl rfl (n := ms.length) rfl rfl (by omega) (made_ints _) ?_
        intro g41
        rw [intsL_len, List.length_replicate]
        refine VA.take (i := 6) rfl (by kernel_rfl) (by kernel_rfl) (by kernel_rfl) rfl rfl (OpV.move (.inr rfl) rfl) ?_
        refine VA.done (by kernel_rfl) ?_
        refine VC.sr ?_
        refine VO.val rfl rfl (OpV.load_at rfl hB OutW.no Tryz.isAgg28 rfl rfl) ?_
        refine VO.val rfl rfl (OpV.len_im rfl Tryz.underlying28 rfl) ?_
        refine VO.op rfl (OpE.make rfl hB rfl Tryz.underlying22 (infoOf Tryz.t3 1 (by kernel_rfl) rfl rfl) (by decide) rfl rfl (n := ns.length) rfl rfl (by omega) (made_ints _) ?_)
        intro g44
        rw [intsL_len, List.length_replicate]
        refine VO.ma rfl rfl rfl rfl ?_
        refine VO.nil ?_
        refine VC.seq ?_
        refine VC.seq ?_
        have hfl : (fstL ns).length = ns.length := by rw [(fstL_perm ns).length_eq, idO_len]
        first | refine VC.asBox (i := 0) (n := ms.length) (sz := 1) rfl hlen.1 (fun g38 cap hu hcap hmx => ?_) | (refine VC.le _ (Le.pickH [1, 0, 2] rfl rfl) ?_; refine VC.asBox (i := 0) (n := ms.length) (sz := 1) rfl hlen.1 (fun g38 cap hu hcap hmx => ?_))
        subst hu
        refine VC.region ?_
        refine VO.mv rfl rfl rfl rfl ?_
        refine VO.val rfl rfl (OpV.len_im rfl Tryz.underlying22 rfl) ?_
        refine VO.mv rfl rfl rfl rfl ?_
        refine VO.nil ?_
        refine VC.block ?_
        refine VC.loopK [(0, _), (3, _), (10, _), (11, _), (12, _), (45, _), (46, _)] ⟨rfl, rfl, rfl, rfl, rfl, rfl, rfl, trivial⟩ ({z : Nat × List Int // z.1 ≤ ns.length ∧ FstI ms ns (fstL ns) z.1 z.2 ∧ fstG ms ns ((fstL ns).drop z.1) z.2 = fstR ms ns}) (fun (iZ : {z : Nat × List Int // z.1 ≤ ns.length ∧ FstI ms ns (fstL ns) z.1 z.2 ∧ fstG ms ns ((fstL ns).drop z.1) z.2 = fstR ms ns}) => match iZ with | ⟨⟨q, g⟩, hq, hI, hG⟩ => [(47, avI (q : Int))]) (fun (iZ : {z : Nat × List Int // z.1 ≤ ns.length ∧ FstI ms ns (fstL ns) z.1 z.2 ∧ fstG ms ns ((fstL ns).drop z.1) z.2 = fstR ms ns}) => match iZ with | ⟨⟨q, g⟩, hq, hI, hG⟩ => [.box g38 ⟨intsL (tabI ms.length fun k => cyc ms ns g k g.length), 3, cap * 1⟩, .box g41 ⟨intsL (tabI ms.length fun k => cnt g k g.length), 3, ms.length⟩, .box g44 ⟨intsL (zerG g), 3, ns.length⟩]) (fun (iZ : {z : Nat × List Int // z.1 ≤ ns.length ∧ FstI ms ns (fstL ns) z.1 z.2 ∧ fstG ms ns ((fstL ns).drop z.1) z.2 = fstR ms ns}) => match iZ with | ⟨⟨q, g⟩, hq, hI, hG⟩ => 0) (fun (iZ : {z : Nat × List Int // z.1 ≤ ns.length ∧ FstI ms ns (fstL ns) z.1 z.2 ∧ fstG ms ns ((fstL ns).drop z.1) z.2 = fstR ms ns}) => match iZ with | ⟨⟨q, g⟩, hq, hI, hG⟩ => ns.length - q) ⟨(0, List.replicate ns.length (-1)), Nat.zero_le _, FstI.zero hmf _, rfl⟩ (Le.mk hB [0, 1, 2] ⟨rfl, rfl, rfl, rfl, rfl, rfl, rfl, rfl, trivial⟩ rfl (by dsimp only; rw [← cycL_fix, ← cnt_fix, zerG_rep]; rfl) (Nat.le_refl _)) ?_
        rintro ⟨⟨q, g⟩, hq, hI, hG⟩
        show VC _ _ _ _ ⟨[(47, avI (q : Int))] ++ [(0, _), (3, _), (10, _), (11, _), (12, _), (45, _), (46, _)], [.box g38 ⟨intsL (tabI ms.length fun k => cyc ms ns g k g.length), 3, cap * 1⟩, .box g41 ⟨intsL (tabI ms.length fun k => cnt g k g.length), 3, ms.length⟩, .box g44 ⟨intsL (zerG g), 3, ns.length⟩], 0⟩
        simp only at hq hI hG
        have hgl := hI.len
        refine VC.sr ?_
        refine VO.val rfl rfl (OpV.lss rfl rfl rfl) ?_
        refine VO.nil ?_
        refine VC.seq ?_
        refine VC.cond rfl (fun aH2b => ?_) (fun aH2b => ?_)
        · have aH2 := aH2b
          try simp only [qqT, qqF, qqN, qqM, qqL, qqE] at aH2
          obtain ⟨i, hi, hin⟩ : ∃ i : Nat, (fstL ns).getD q 0 = (i : Int) ∧ i < ns.length := by
            have hx := (fstL_ord ns).lt ((fstL ns).getD q 0) (by rw [List.getD_eq_getElem?_getD, List.getElem?_eq_getElem (by omega)]; exact List.getElem_mem _)
            exact ⟨((fstL ns).getD q 0).toNat, by omega, by omega⟩
          have hnone := hI.none (fstL_ord ns).nd (by omega) hi hin
          refine VC.skip ?_
          refine VC.seq ?_
          refine VC.block ?_
          refine VC.sr ?_
          refine VO.val rfl rfl (OpV.indexAddr_1 rfl Tryz.underlying22 Tryz.sizeOf3 rfl rfl rfl (by omega)) ?_
          refine VO.val rfl rfl (OpV.load_at rfl hB OutW.no Tryz.isAgg3 rfl rfl) ?_
          refine VO.le _ (Le.recast (t := 50) (y := avI (i : Int)) rfl (fun w Z u h => by rw [← hi]; exact h)) ?_
          refine VO.ma rfl rfl rfl rfl ?_
          refine VO.nil ?_
          refine VC.sr ?_
          refine VO.ma rfl rfl rfl rfl ?_
          refine VO.nil ?_
          refine VC.seq ?_
          refine VC.sr ?_
          refine VO.mv rfl rfl rfl rfl ?_
          refine VO.val rfl rfl (OpV.len_im rfl Tryz.underlying26 rfl) ?_
          refine VO.mv rfl rfl rfl rfl ?_
          refine VO.nil ?_
          refine VC.block ?_
          refine VC.loopK [(0, _), (3, _), (10, _), (11, _), (12, _), (14, _), (45, _), (46, _), (47, _), (51, _), (52, _)] ⟨rfl, rfl, rfl, rfl, rfl, rfl, rfl, rfl, rfl, rfl, rfl, trivial⟩ ({k : Nat // k ≤ ms.length}) (fun (iZ : {k : Nat // k ≤ ms.length}) => match iZ with | ⟨k, hk⟩ => [(15, avI (pckF (fstC ms ns g i) (fstO ms ns g i) k)), (53, avI (k : Int))]) (fun (iZ : {k : Nat // k ≤ ms.length}) => match iZ with | ⟨k, hk⟩ => [.box g38 ⟨intsL (tabI ms.length fun k => cyc ms ns g k g.length), 3, cap * 1⟩, .box g41 ⟨intsL (tabI ms.length fun k => cnt g k g.length), 3, ms.length⟩, .box g44 ⟨intsL (zerG g), 3, ns.length⟩]) (fun (iZ : {k : Nat // k ≤ ms.length}) => match iZ with | ⟨k, hk⟩ => 0) (fun (iZ : {k : Nat // k ≤ ms.length}) => match iZ with | ⟨k, hk⟩ => ms.length - k) ⟨0, Nat.zero_le _⟩ (Le.mk hB [0, 1, 2] ⟨rfl, rfl, rfl, rfl, rfl, rfl, rfl, rfl, rfl, rfl, rfl, rfl, rfl, trivial⟩ rfl rfl (Nat.le_refl _)) ?_
          rintro ⟨k, hk⟩
          show VC _ _ _ _ ⟨[(15, avI (pckF (fstC ms ns g i) (fstO ms ns g i) k)), (53, avI (k : Int))] ++ [(0, _), (3, _), (10, _), (11, _), (12, _), (14, _), (45, _), (46, _), (47, _), (51, _), (52, _)], [.box g38 ⟨intsL (tabI ms.length fun k => cyc ms ns g k g.length), 3, cap * 1⟩, .box g41 ⟨intsL (tabI ms.length fun k => cnt g k g.length), 3, ms.length⟩, .box g44 ⟨intsL (zerG g), 3, ns.length⟩], 0⟩
          have hpb := pck_bd (fstC ms ns g i) (fstO ms ns g i) k
          have hcn := cnt_le g k g.length
          have hcy := cyc_bd hM (pl := g) (k := k) (Nat.le_refl _)
          have hcb := cyc_bd hM (pl := g) (k := (pckF (fstC ms ns g i) (fstO ms ns g i) k).toNat) (Nat.le_refl _)
          have hmu := mul_in2 (hM.each k) (hM.cnt i)
          have hmb := mul_in2 (hM.each (pckF (fstC ms ns g i) (fstO ms ns g i) k).toNat) (hM.cnt i)
          refine VC.sr ?_
          refine VO.val rfl rfl (OpV.lss rfl rfl rfl) ?_
          refine VO.nil ?_
          refine VC.seq ?_
          refine VC.cond rfl (fun aH3b => ?_) (fun aH3b => ?_)
          · have aH3 := aH3b
            try simp only [qqT, qqF, qqN, qqM, qqL, qqE] at aH3
            refine VC.skip ?_
            refine VC.seq ?_
            refine VC.block ?_
            refine VC.sr ?_
            refine VO.mv rfl rfl rfl rfl ?_
            refine VO.val rfl rfl (OpV.indexAddr_E rfl Tryz.underlying26 Tryz.sizeOf106 rfl rfl rfl (by omega)) ?_
            refine VO.val rfl rfl (OpV.loadK_at rfl hB OutW.no Tryz.isAgg106 Tryz.sizeOf106 rfl rfl) ?_
            refine VO.op rfl (OpE.alloc rfl hB rfl Tryz.zeroValue106 rfl ?_)
            intro g17
            refine VO.ma rfl rfl rfl rfl ?_
            refine VO.op rfl (OpE.store (i := 3) rfl hB rfl Tryz.sizeOf106 rfl rfl rfl rfl rfl rfl (Nle rfl) trivial ?_)
            refine VO.nil ?_
            refine VC.seq ?_
            refine VC.seq ?_
            refine VC.draw (fun _ => NoB) hB (by kernel_rfl) ?_
            refine VA.take (i := 0) rfl (by kernel_rfl) (by kernel_rfl) (by kernel_rfl) rfl rfl (OpV.loadK_own (i := 3) rfl hB Tryz.isAgg106 Tryz.sizeOf106 rfl rfl rfl Wi.not0) ?_
            refine VA.take (i := 1) rfl (by kernel_rfl) (by kernel_rfl) (by kernel_rfl) rfl rfl (OpV.load_at rfl hB OutW.wi0 Tryz.isAgg28 rfl rfl) ?_
            refine VA.take (i := 2) rfl (by kernel_rfl) (by kernel_rfl) (by kernel_rfl) rfl rfl (OpV.move (.inl rfl) rfl) ?_
            refine VA.take (i := 3) rfl (by kernel_rfl) (by kernel_rfl) (by kernel_rfl) rfl rfl (OpV.indexAddr_E rfl Tryz.underlying28 Tryz.sizeOf111 rfl rfl rfl (by omega)) ?_
            refine VA.take (i := 4) rfl (by kernel_rfl) (by kernel_rfl) (by kernel_rfl) rfl rfl (OpV.fieldAddr_atO 0 rfl Tryz.underlying111 rfl rfl Tryz.sizeOf9 rfl rfl) ?_
            refine VA.take (i := 5) rfl (by kernel_rfl) (by kernel_rfl) (by kernel_rfl) rfl rfl (OpV.load_at rfl hB OutW.wi0 Tryz.isAgg9 rfl rfl) ?_
            refine VA.all (rs := [6]) (by kernel_rfl) (by decide) ?_
            refine ⟨⟨_, rfl, .inl rfl, ?_⟩, trivial⟩
            refine OpE.call rfl hB rfl Tryz.call79 rfl (SpecN.spec (line_can (by have := canF_keys (machF_each hmf (i := k) (by omega)).2; omega) (canF_sort (machF_each hmf (by omega)).2))) ?_
            rintro _ rfl
            refine VA.take (i := 7) rfl (by kernel_rfl) (by kernel_rfl) (by kernel_rfl) rfl rfl (OpV.not rfl rfl) ?_
            refine VA.take (i := 8) rfl (by kernel_rfl) (by kernel_rfl) (by kernel_rfl) rfl rfl (OpV.move (.inl rfl) rfl) ?_
            refine VA.split (t := 66) rfl (fun aK4b => ?_) (fun aK4b => ?_)
            · have aK4 := aK4b
              try simp only [qqT, qqF, qqN, qqM, qqL, qqE] at aK4
              refine VA.takeX (i := 9) rfl (by kernel_rfl) (by kernel_rfl) (by kernel_rfl) rfl rfl rfl rfl aK4b ?_
              refine VA.takeX (i := 10) rfl (by kernel_rfl) (by kernel_rfl) (by kernel_rfl) rfl rfl rfl rfl aK4b ?_
              refine VA.takeX (i := 11) rfl (by kernel_rfl) (by kernel_rfl) (by kernel_rfl) rfl rfl rfl rfl aK4b ?_
              refine VA.takeX (i := 12) rfl (by kernel_rfl) (by kernel_rfl) (by kernel_rfl) rfl rfl rfl rfl aK4b ?_
              refine VA.takeX (i := 13) rfl (by kernel_rfl) (by kernel_rfl) (by kernel_rfl) rfl rfl rfl rfl aK4b ?_
              refine VA.takeX (i := 14) rfl (by kernel_rfl) (by kernel_rfl) (by kernel_rfl) rfl rfl rfl rfl aK4b ?_
              refine VA.takeX (i := 15) rfl (by kernel_rfl) (by kernel_rfl) (by kernel_rfl) rfl rfl rfl rfl aK4b ?_
              refine VA.take (i := 16) rfl (by kernel_rfl) (by kernel_rfl) (by kernel_rfl) rfl rfl (OpV.pickT rfl rfl rfl rfl aK4b) ?_
              refine VA.done (by kernel_rfl) ?_
              refine VC.condT rfl rfl ?_
              refine VC.exit ?_
              refine VC.region ?_
              refine VO.val rfl rfl (OpV.add rfl rfl rfl (by unfold fits; omega)) ?_
              refine VO.mv rfl rfl rfl rfl ?_
              refine VO.nil ?_
              exact Exists.intro (⟨k + 1, by omega⟩) (And.intro (Le.mk hB [0, 1, 2] ⟨(by dsimp only; first | (rw [pck_n1 (fstO_f1 (by assumption))]; rfl) | (rw [pck_n1 (fstO_f2 (by omega))]; rfl) | (rw [pck_y (fstO_t (by assumption) (by omega)) (.inl (by assumption))]; rfl) | (rw [pck_y (fstO_t (by assumption) (by omega)) (.inr (fstC_lt.2 (by omega)))]; rfl) | (rw [pck_n2 (by omega) (fun e => absurd (fstC_lt.1 e) (by omega))]; rfl)), rfl, rfl, rfl, rfl, rfl, rfl, rfl, rfl, rfl, rfl, rfl, rfl, trivial⟩ rfl rfl (Nat.le_refl _)) (by first | omega | (show _ < _; omega) | (simp only []; omega)))
            · have aK4 := aK4b
              try simp only [qqT, qqF, qqN, qqM, qqL, qqE] at aK4
              refine VA.takeY (i := 9) rfl (by kernel_rfl) (by kernel_rfl) (by kernel_rfl) rfl rfl rfl rfl aK4b (OpV.move (.inl rfl) rfl) ?_
              refine VA.takeY (i := 10) rfl (by kernel_rfl) (by kernel_rfl) (by kernel_rfl) rfl rfl rfl rfl aK4b (OpV.move (.inl rfl) rfl) ?_
              refine VA.takeY (i := 11) rfl (by kernel_rfl) (by kernel_rfl) (by kernel_rfl) rfl rfl rfl rfl aK4b (OpV.indexAddr_o rfl Tryz.underlying22 Tryz.sizeOf3 rfl rfl rfl (by omega)) ?_
              refine VA.takeY (i := 12) rfl (by kernel_rfl) (by kernel_rfl) (by kernel_rfl) rfl rfl rfl rfl aK4b (OpV.load_own (i := 1) rfl hB Tryz.isAgg3 rfl rfl (intsT_get (by omega)) Wi.not0) ?_
              refine VA.takeY (i := 13) rfl (by kernel_rfl) (by kernel_rfl) (by kernel_rfl) rfl rfl rfl rfl aK4b (OpV.fieldAddrO 3 rfl Tryz.underlying106 rfl rfl Tryz.sizeOf3 rfl) ?_
              refine VA.takeY (i := 14) rfl (by kernel_rfl) (by kernel_rfl) (by kernel_rfl) rfl rfl rfl rfl aK4b (OpV.load_own (i := 3) rfl hB Tryz.isAgg3 rfl rfl rfl Wi.not0) ?_
              refine VA.takeY (i := 15) rfl (by kernel_rfl) (by kernel_rfl) (by kernel_rfl) rfl rfl rfl rfl aK4b (OpV.geq rfl rfl rfl) ?_
              refine VA.take (i := 16) rfl (by kernel_rfl) (by kernel_rfl) (by kernel_rfl) rfl rfl (OpV.pickF rfl rfl rfl rfl aK4b) ?_
              refine VA.done (by kernel_rfl) ?_
              refine VC.cond rfl (fun h4b => ?_) (fun h4b => ?_)
              · have h4 := h4b
                try simp only [qqT, qqF, qqN, qqM, qqL, qqE] at h4
                refine VC.exit ?_
                refine VC.region ?_
                refine VO.val rfl rfl (OpV.add rfl rfl rfl (by unfold fits; omega)) ?_
                refine VO.mv rfl rfl rfl rfl ?_
                refine VO.nil ?_
                exact Exists.intro (⟨k + 1, by omega⟩) (And.intro (Le.mk hB [0, 1, 2] ⟨(by dsimp only; first | (rw [pck_n1 (fstO_f1 (by assumption))]; rfl) | (rw [pck_n1 (fstO_f2 (by omega))]; rfl) | (rw [pck_y (fstO_t (by assumption) (by omega)) (.inl (by assumption))]; rfl) | (rw [pck_y (fstO_t (by assumption) (by omega)) (.inr (fstC_lt.2 (by omega)))]; rfl) | (rw [pck_n2 (by omega) (fun e => absurd (fstC_lt.1 e) (by omega))]; rfl)), rfl, rfl, rfl, rfl, rfl, rfl, rfl, rfl, rfl, rfl, rfl, rfl, trivial⟩ rfl rfl (Nat.le_refl _)) (by first | omega | (show _ < _; omega) | (simp only []; omega)))
              · have h4 := h4b
                try simp only [qqT, qqF, qqN, qqM, qqL, qqE] at h4
                refine VC.skip ?_
                refine VC.seq ?_
                refine VC.draw (fun _ => NoB) hB (by kernel_rfl) ?_
                refine VA.take (i := 0) rfl (by kernel_rfl) (by kernel_rfl) (by kernel_rfl) rfl rfl (OpV.move (.inl rfl) rfl) ?_
                refine VA.take (i := 1) rfl (by kernel_rfl) (by kernel_rfl) (by kernel_rfl) rfl rfl (OpV.lss rfl rfl rfl) ?_
                refine VA.take (i := 2) rfl (by kernel_rfl) (by kernel_rfl) (by kernel_rfl) rfl rfl (OpV.move (.inl rfl) rfl) ?_
                refine VA.split (t := 77) rfl (fun aK5b => ?_) (fun aK5b => ?_)
                · have aK5 := aK5b
                  try simp only [qqT, qqF, qqN, qqM, qqL, qqE] at aK5
                  refine VA.takeX (i := 3) rfl (by kernel_rfl) (by kernel_rfl) (by kernel_rfl) rfl rfl rfl rfl aK5b ?_
                  refine VA.takeX (i := 4) rfl (by kernel_rfl) (by kernel_rfl) (by kernel_rfl) rfl rfl rfl rfl aK5b ?_
                  refine VA.takeX (i := 5) rfl (by kernel_rfl) (by kernel_rfl) (by kernel_rfl) rfl rfl rfl rfl aK5b ?_
                  refine VA.takeX (i := 6) rfl (by kernel_rfl) (by kernel_rfl) (by kernel_rfl) rfl rfl rfl rfl aK5b ?_
                  refine VA.takeX (i := 7) rfl (by kernel_rfl) (by kernel_rfl) (by kernel_rfl) rfl rfl rfl rfl aK5b ?_
                  refine VA.takeX (i := 8) rfl (by kernel_rfl) (by kernel_rfl) (by kernel_rfl) rfl rfl rfl rfl aK5b ?_
                  refine VA.takeX (i := 9) rfl (by kernel_rfl) (by kernel_rfl) (by kernel_rfl) rfl rfl rfl rfl aK5b ?_
                  refine VA.takeX (i := 10) rfl (by kernel_rfl) (by kernel_rfl) (by kernel_rfl) rfl rfl rfl rfl aK5b ?_
                  refine VA.takeX (i := 11) rfl (by kernel_rfl) (by kernel_rfl) (by kernel_rfl) rfl rfl rfl rfl aK5b ?_
                  refine VA.takeX (i := 12) rfl (by kernel_rfl) (by kernel_rfl) (by kernel_rfl) rfl rfl rfl rfl aK5b ?_
                  refine VA.takeX (i := 13) rfl (by kernel_rfl) (by kernel_rfl) (by kernel_rfl) rfl rfl rfl rfl aK5b ?_
                  refine VA.takeX (i := 14) rfl (by kernel_rfl) (by kernel_rfl) (by kernel_rfl) rfl rfl rfl rfl aK5b ?_
                  refine VA.takeX (i := 15) rfl (by kernel_rfl) (by kernel_rfl) (by kernel_rfl) rfl rfl rfl rfl aK5b ?_
                  refine VA.takeX (i := 16) rfl (by kernel_rfl) (by kernel_rfl) (by kernel_rfl) rfl rfl rfl rfl aK5b ?_
                  refine VA.takeX (i := 17) rfl (by kernel_rfl) (by kernel_rfl) (by kernel_rfl) rfl rfl rfl rfl aK5b ?_
                  refine VA.takeX (i := 18) rfl (by kernel_rfl) (by kernel_rfl) (by kernel_rfl) rfl rfl rfl rfl aK5b ?_
                  refine VA.takeX (i := 19) rfl (by kernel_rfl) (by kernel_rfl) (by kernel_rfl) rfl rfl rfl rfl aK5b ?_
                  refine VA.takeX (i := 20) rfl (by kernel_rfl) (by kernel_rfl) (by kernel_rfl) rfl rfl rfl rfl aK5b ?_
                  refine VA.takeX (i := 21) rfl (by kernel_rfl) (by kernel_rfl) (by kernel_rfl) rfl rfl rfl rfl aK5b ?_
                  refine VA.takeX (i := 22) rfl (by kernel_rfl) (by kernel_rfl) (by kernel_rfl) rfl rfl rfl rfl aK5b ?_
                  refine VA.takeX (i := 23) rfl (by kernel_rfl) (by kernel_rfl) (by kernel_rfl) rfl rfl rfl rfl aK5b ?_
                  refine VA.takeX (i := 24) rfl (by kernel_rfl) (by kernel_rfl) (by kernel_rfl) rfl rfl rfl rfl aK5b ?_
                  refine VA.takeX (i := 25) rfl (by kernel_rfl) (by kernel_rfl) (by kernel_rfl) rfl rfl rfl rfl aK5b ?_
                  refine VA.takeX (i := 26) rfl (by kernel_rfl) (by kernel_rfl) (by kernel_rfl) rfl rfl rfl rfl aK5b ?_
                  refine VA.takeX (i := 27) rfl (by kernel_rfl) (by kernel_rfl) (by kernel_rfl) rfl rfl rfl rfl aK5b ?_
                  refine VA.takeX (i := 28) rfl (by kernel_rfl) (by kernel_rfl) (by kernel_rfl) rfl rfl rfl rfl aK5b ?_
                  refine VA.takeX (i := 29) rfl (by kernel_rfl) (by kernel_rfl) (by kernel_rfl) rfl rfl rfl rfl aK5b ?_
                  refine VA.takeX (i := 30) rfl (by kernel_rfl) (by kernel_rfl) (by kernel_rfl) rfl rfl rfl rfl aK5b ?_
                  refine VA.takeX (i := 31) rfl (by kernel_rfl) (by kernel_rfl) (by kernel_rfl) rfl rfl rfl rfl aK5b ?_
                  refine VA.takeX (i := 32) rfl (by kernel_rfl) (by kernel_rfl) (by kernel_rfl) rfl rfl rfl rfl aK5b ?_
                  refine VA.take (i := 33) rfl (by kernel_rfl) (by kernel_rfl) (by kernel_rfl) rfl rfl (OpV.pickT rfl rfl rfl rfl aK5b) ?_
                  refine VA.done (by kernel_rfl) ?_
                  refine VC.condT rfl rfl ?_
                  refine VC.region ?_
                  refine VO.mv rfl rfl rfl rfl ?_
                  refine VO.ma rfl rfl rfl rfl ?_
                  refine VO.nil ?_
                  refine VC.region ?_
                  refine VO.val rfl rfl (OpV.add rfl rfl rfl (by unfold fits; omega)) ?_
                  refine VO.mv rfl rfl rfl rfl ?_
                  refine VO.nil ?_
                  exact Exists.intro (⟨k + 1, by omega⟩) (And.intro (Le.mk hB [0, 1, 2] ⟨(by dsimp only; first | (rw [pck_n1 (fstO_f1 (by assumption))]; rfl) | (rw [pck_n1 (fstO_f2 (by omega))]; rfl) | (rw [pck_y (fstO_t (by assumption) (by omega)) (.inl (by assumption))]; rfl) | (rw [pck_y (fstO_t (by assumption) (by omega)) (.inr (fstC_lt.2 (by omega)))]; rfl) | (rw [pck_n2 (by omega) (fun e => absurd (fstC_lt.1 e) (by omega))]; rfl)), rfl, rfl, rfl, rfl, rfl, rfl, rfl, rfl, rfl, rfl, rfl, rfl, trivial⟩ rfl rfl (Nat.le_refl _)) (by first | omega | (show _ < _; omega) | (simp only []; omega)))
                · have aK5 := aK5b
                  try simp only [qqT, qqF, qqN, qqM, qqL, qqE] at aK5
                  refine VA.takeY (i := 3) rfl (by kernel_rfl) (by kernel_rfl) (by kernel_rfl) rfl rfl rfl rfl aK5b (OpV.move (.inl rfl) rfl) ?_
                  refine VA.takeY (i := 4) rfl (by kernel_rfl) (by kernel_rfl) (by kernel_rfl) rfl rfl rfl rfl aK5b (OpV.move (.inl rfl) rfl) ?_
                  refine VA.takeY (i := 5) rfl (by kernel_rfl) (by kernel_rfl) (by kernel_rfl) rfl rfl rfl rfl aK5b (OpV.indexAddr_o rfl Tryz.underlying22 Tryz.sizeOf3 rfl rfl rfl (by omega)) ?_
                  refine VA.takeY (i := 6) rfl (by kernel_rfl) (by kernel_rfl) (by kernel_rfl) rfl rfl rfl rfl aK5b (OpV.load_own (i := 0) rfl hB Tryz.isAgg3 rfl rfl (intsT_get (by omega)) Wi.not0) ?_
                  refine VA.takeY (i := 7) rfl (by kernel_rfl) (by kernel_rfl) (by kernel_rfl) rfl rfl rfl rfl aK5b (OpV.fieldAddrO 1 rfl Tryz.underlying106 rfl rfl Tryz.sizeOf3 rfl) ?_
                  refine VA.takeY (i := 8) rfl (by kernel_rfl) (by kernel_rfl) (by kernel_rfl) rfl rfl rfl rfl aK5b (OpV.load_own (i := 3) rfl hB Tryz.isAgg3 rfl rfl rfl Wi.not0) ?_
                  refine VA.takeY (i := 9) rfl (by kernel_rfl) (by kernel_rfl) (by kernel_rfl) rfl rfl rfl rfl aK5b (OpV.load_at rfl hB OutW.wi0 Tryz.isAgg28 rfl rfl) ?_
                  refine VA.takeY (i := 10) rfl (by kernel_rfl) (by kernel_rfl) (by kernel_rfl) rfl rfl rfl rfl aK5b (OpV.move (.inl rfl) rfl) ?_
                  refine VA.takeY (i := 11) rfl (by kernel_rfl) (by kernel_rfl) (by kernel_rfl) rfl rfl rfl rfl aK5b (OpV.indexAddr_E rfl Tryz.underlying28 Tryz.sizeOf111 rfl rfl rfl (by omega)) ?_
                  refine VA.takeY (i := 12) rfl (by kernel_rfl) (by kernel_rfl) (by kernel_rfl) rfl rfl rfl rfl aK5b (OpV.fieldAddr_atO 1 rfl Tryz.underlying111 rfl rfl Tryz.sizeOf3 rfl rfl) ?_
                  refine VA.takeY (i := 13) rfl (by kernel_rfl) (by kernel_rfl) (by kernel_rfl) rfl rfl rfl rfl aK5b (OpV.load_at rfl hB OutW.wi0 Tryz.isAgg3 rfl rfl) ?_
                  refine VA.takeY (i := 14) rfl (by kernel_rfl) (by kernel_rfl) (by kernel_rfl) rfl rfl rfl rfl aK5b (OpV.mul rfl rfl rfl (by unfold fits; omega)) ?_
                  refine VA.takeY (i := 15) rfl (by kernel_rfl) (by kernel_rfl) (by kernel_rfl) rfl rfl rfl rfl aK5b (OpV.add rfl rfl rfl (by unfold fits; omega)) ?_
                  refine VA.takeY (i := 16) rfl (by kernel_rfl) (by kernel_rfl) (by kernel_rfl) rfl rfl rfl rfl aK5b (OpV.move (.inl rfl) rfl) ?_
                  refine VA.takeY (i := 17) rfl (by kernel_rfl) (by kernel_rfl) (by kernel_rfl) rfl rfl rfl rfl aK5b (OpV.move (.inl rfl) rfl) ?_
                  refine VA.takeY (i := 18) rfl (by kernel_rfl) (by kernel_rfl) (by kernel_rfl) rfl rfl rfl rfl aK5b (OpV.indexAddr_o rfl Tryz.underlying22 Tryz.sizeOf3 rfl rfl (Int.toNat_of_nonneg (by omega)).symm (by omega)) ?_
                  refine VA.takeY (i := 19) rfl (by kernel_rfl) (by kernel_rfl) (by kernel_rfl) rfl rfl rfl rfl aK5b (OpV.load_own (i := 0) rfl hB Tryz.isAgg3 rfl rfl (intsT_get (by omega)) Wi.not0) ?_
                  refine VA.takeY (i := 20) rfl (by kernel_rfl) (by kernel_rfl) (by kernel_rfl) rfl rfl rfl rfl aK5b (OpV.move (.inl rfl) rfl) ?_
                  refine VA.takeY (i := 21) rfl (by kernel_rfl) (by kernel_rfl) (by kernel_rfl) rfl rfl rfl rfl aK5b (OpV.move (.inl rfl) rfl) ?_
                  refine VA.takeY (i := 22) rfl (by kernel_rfl) (by kernel_rfl) (by kernel_rfl) rfl rfl rfl rfl aK5b (OpV.indexAddr_E rfl Tryz.underlying26 Tryz.sizeOf106 rfl rfl (Int.toNat_of_nonneg (by omega)).symm (by omega)) ?_
                  refine VA.takeY (i := 23) rfl (by kernel_rfl) (by kernel_rfl) (by kernel_rfl) rfl rfl rfl rfl aK5b (OpV.fieldAddr_atO 1 rfl Tryz.underlying106 rfl rfl Tryz.sizeOf3 rfl rfl) ?_
                  refine VA.takeY (i := 24) rfl (by kernel_rfl) (by kernel_rfl) (by kernel_rfl) rfl rfl rfl rfl aK5b (OpV.load_at rfl hB OutW.wi0 Tryz.isAgg3 rfl rfl) ?_
                  refine VA.takeY (i := 25) rfl (by kernel_rfl) (by kernel_rfl) (by kernel_rfl) rfl rfl rfl rfl aK5b (OpV.load_at rfl hB OutW.wi0 Tryz.isAgg28 rfl rfl) ?_
                  refine VA.takeY (i := 26) rfl (by kernel_rfl) (by kernel_rfl) (by kernel_rfl) rfl rfl rfl rfl aK5b (OpV.move (.inl rfl) rfl) ?_
                  refine VA.takeY (i := 27) rfl (by kernel_rfl) (by kernel_rfl) (by kernel_rfl) rfl rfl rfl rfl aK5b (OpV.indexAddr_E rfl Tryz.underlying28 Tryz.sizeOf111 rfl rfl rfl (by omega)) ?_
                  refine VA.takeY (i := 28) rfl (by kernel_rfl) (by kernel_rfl) (by kernel_rfl) rfl rfl rfl rfl aK5b (OpV.fieldAddr_atO 1 rfl Tryz.underlying111 rfl rfl Tryz.sizeOf3 rfl rfl) ?_
                  refine VA.takeY (i := 29) rfl (by kernel_rfl) (by kernel_rfl) (by kernel_rfl) rfl rfl rfl rfl aK5b (OpV.load_at rfl hB OutW.wi0 Tryz.isAgg3 rfl rfl) ?_
                  refine VA.takeY (i := 30) rfl (by kernel_rfl) (by kernel_rfl) (by kernel_rfl) rfl rfl rfl rfl aK5b (OpV.mul rfl rfl rfl (by unfold fits; omega)) ?_
                  refine VA.takeY (i := 31) rfl (by kernel_rfl) (by kernel_rfl) (by kernel_rfl) rfl rfl rfl rfl aK5b (OpV.add rfl rfl rfl (by unfold fits; omega)) ?_
                  refine VA.takeY (i := 32) rfl (by kernel_rfl) (by kernel_rfl) (by kernel_rfl) rfl rfl rfl rfl aK5b (OpV.lss rfl rfl rfl) ?_
                  refine VA.take (i := 33) rfl (by kernel_rfl) (by kernel_rfl) (by kernel_rfl) rfl rfl (OpV.pickF rfl rfl rfl rfl aK5b) ?_
                  refine VA.done (by kernel_rfl) ?_
                  refine VC.cond rfl (fun h5b => ?_) (fun h5b => ?_)
                  · have h5 := h5b
                    try simp only [qqT, qqF, qqN, qqM, qqL, qqE] at h5
                    refine VC.region ?_
                    refine VO.mv rfl rfl rfl rfl ?_
                    refine VO.ma rfl rfl rfl rfl ?_
                    refine VO.nil ?_
                    refine VC.region ?_
                    refine VO.val rfl rfl (OpV.add rfl rfl rfl (by unfold fits; omega)) ?_
                    refine VO.mv rfl rfl rfl rfl ?_
                    refine VO.nil ?_
                    exact Exists.intro (⟨k + 1, by omega⟩) (And.intro (Le.mk hB [0, 1, 2] ⟨(by dsimp only; first | (rw [pck_n1 (fstO_f1 (by assumption))]; rfl) | (rw [pck_n1 (fstO_f2 (by omega))]; rfl) | (rw [pck_y (fstO_t (by assumption) (by omega)) (.inl (by assumption))]; rfl) | (rw [pck_y (fstO_t (by assumption) (by omega)) (.inr (fstC_lt.2 (by omega)))]; rfl) | (rw [pck_n2 (by omega) (fun e => absurd (fstC_lt.1 e) (by omega))]; rfl)), rfl, rfl, rfl, rfl, rfl, rfl, rfl, rfl, rfl, rfl, rfl, rfl, trivial⟩ rfl rfl (Nat.le_refl _)) (by first | omega | (show _ < _; omega) | (simp only []; omega)))
                  · have h5 := h5b
                    try simp only [qqT, qqF, qqN, qqM, qqL, qqE] at h5
                    refine VC.skip ?_
                    refine VC.region ?_
                    refine VO.val rfl rfl (OpV.add rfl rfl rfl (by unfold fits; omega)) ?_
                    refine VO.mv rfl rfl rfl rfl ?_
                    refine VO.nil ?_
                    exact Exists.intro (⟨k + 1, by omega⟩) (And.intro (Le.mk hB [0, 1, 2] ⟨(by dsimp only; first | (rw [pck_n1 (fstO_f1 (by assumption))]; rfl) | (rw [pck_n1 (fstO_f2 (by omega))]; rfl) | (rw [pck_y (fstO_t (by assumption) (by omega)) (.inl (by assumption))]; rfl) | (rw [pck_y (fstO_t (by assumption) (by omega)) (.inr (fstC_lt.2 (by omega)))]; rfl) | (rw [pck_n2 (by omega) (fun e => absurd (fstC_lt.1 e) (by omega))]; rfl)), rfl, rfl, rfl, rfl, rfl, rfl, rfl, rfl, rfl, rfl, rfl, rfl, trivial⟩ rfl rfl (Nat.le_refl _)) (by first | omega | (show _ < _; omega) | (simp only []; omega)))
          · have aH3 := aH3b
            try simp only [qqT, qqF, qqN, qqM, qqL, qqE] at aH3
            refine VC.exit ?_
            refine VC.seq ?_
            refine VC.sr ?_
            refine VO.mv rfl rfl rfl rfl ?_
            refine VO.val rfl rfl (OpV.lss rfl rfl rfl) ?_
            refine VO.nil ?_
            refine VC.cond rfl (fun h6b => ?_) (fun h6b => ?_)
            · have h6 := h6b
              try simp only [qqT, qqF, qqN, qqM, qqL, qqE] at h6
              have hnn : fstR ms ns = none := by
                obtain rfl : k = ms.length := by omega
                rw [← hG, fstG_step (by omega), hi, Int.toNat_natCast, if_pos (show fstB ms ns g i < 0 from h6)]
              refine VC.sr ?_
              refine VO.ma rfl rfl rfl rfl ?_
              refine VO.ma rfl rfl rfl rfl ?_
              refine VO.ma rfl rfl rfl rfl ?_
              refine VO.nil ?_
              refine VC.le _ (Le.recast (t := 4) (y := avInts []) rfl (fun w Z u h => by rw [h.eq_v]; exact .nil _ _)) ?_
              refine VC.ret ?_
              exact Exists.intro _ (And.intro (RetV.three Tryz.results13 (ResV.tmp rfl) (ResV.tmp rfl) (ResV.tmp rfl)) (by rw [(fst_2 hnn).1, (fst_2 hnn).2, hf0]))
            · have h6 := h6b
              try simp only [qqT, qqF, qqN, qqM, qqL, qqE] at h6
              obtain rfl : k = ms.length := by omega
              obtain ⟨kb, hkb, hkl, hk1, hk2⟩ := fstB_in (ms := ms) (ns := ns) (g := g) (i := i) (show ¬ fstB ms ns g i < 0 from Int.not_lt.2 h6)
              have hG2 : fstG ms ns ((fstL ns).drop (q + 1)) (g.set i (kb : Int)) = fstR ms ns := by
                have h := fstG_step (ms := ms) (ns := ns) (l := fstL ns) (g := g) (q := q) (by omega)
                rw [hG, hi, Int.toNat_natCast, if_neg (by omega), hkb] at h; exact h.symm
              have hcy2 := cyc_bd hM (pl := g) (k := kb) (Nat.le_refl _)
              have hcn2 := cnt_le g kb g.length
              have hmu2 := mul_in2 (hM.each kb) (hM.cnt i)
              refine VC.le _ (Le.recast (t := 15) (y := avI (kb : Int)) rfl (fun w Z u h => by rw [← hkb]; exact h)) ?_
              refine VC.skip ?_
              refine VC.sr ?_
              refine VO.mv rfl rfl rfl rfl ?_
              refine VO.mv rfl rfl rfl rfl ?_
              refine VO.mv rfl rfl rfl rfl ?_
              refine VO.val rfl rfl (OpV.indexAddr_o rfl Tryz.underlying22 Tryz.sizeOf3 rfl rfl rfl (by omega)) ?_
              refine VO.op rfl (OpE.store1 (i := 2) rfl hB rfl Tryz.sizeOf3 rfl rfl rfl rfl rfl rfl (by rw [intsL_len, zerG_len]; omega) ((intsL_set _ _ _).trans (congrArg intsL zerG_set)) trivial ?_)
              refine VO.nil ?_
              refine VC.seq ?_
              refine VC.draw (fun j b => j = 17 ∧ b = g38) hB (by kernel_rfl) ?_
              refine VA.take (i := 0) rfl (by kernel_rfl) (by kernel_rfl) (by kernel_rfl) rfl rfl (OpV.move (.inl rfl) rfl) ?_
              refine VA.take (i := 1) rfl (by kernel_rfl) (by kernel_rfl) (by kernel_rfl) rfl rfl (OpV.move (.inl rfl) rfl) ?_
              refine VA.take (i := 2) rfl (by kernel_rfl) (by kernel_rfl) (by kernel_rfl) rfl rfl (OpV.indexAddr_o rfl Tryz.underlying22 Tryz.sizeOf3 rfl rfl rfl (by omega)) ?_
              refine VA.take (i := 3) rfl (by kernel_rfl) (by kernel_rfl) (by kernel_rfl) rfl rfl (OpV.load_own (i := 0) rfl hB Tryz.isAgg3 rfl rfl (intsT_get hkl) (by first | exact Wi.not1 (by kernel_rfl) | exact Wi.not2 (by kernel_rfl) (by kernel_rfl) | exact Wi.notX (by kernel_rfl))) ?_
              refine VA.take (i := 4) rfl (by kernel_rfl) (by kernel_rfl) (by kernel_rfl) rfl rfl (OpV.move (.inl rfl) rfl) ?_
              refine VA.take (i := 5) rfl (by kernel_rfl) (by kernel_rfl) (by kernel_rfl) rfl rfl (OpV.move (.inl rfl) rfl) ?_
              refine VA.take (i := 6) rfl (by kernel_rfl) (by kernel_rfl) (by kernel_rfl) rfl rfl (OpV.indexAddr_E rfl Tryz.underlying26 Tryz.sizeOf106 rfl rfl rfl (by omega)) ?_
              refine VA.take (i := 7) rfl (by kernel_rfl) (by kernel_rfl) (by kernel_rfl) rfl rfl (OpV.fieldAddr_atO 1 rfl Tryz.underlying106 rfl rfl Tryz.sizeOf3 rfl rfl) ?_
              refine VA.take (i := 8) rfl (by kernel_rfl) (by kernel_rfl) (by kernel_rfl) rfl rfl (OpV.load_at rfl hB (by first | exact OutW.wi1 (k := 0) rfl rfl | exact OutW.wi1 (k := 1) rfl rfl | exact OutW.wi1 (k := 2) rfl rfl) Tryz.isAgg3 rfl rfl) ?_
              refine VA.take (i := 9) rfl (by kernel_rfl) (by kernel_rfl) (by kernel_rfl) rfl rfl (OpV.load_at rfl hB (by first | exact OutW.wi1 (k := 0) rfl rfl | exact OutW.wi1 (k := 1) rfl rfl | exact OutW.wi1 (k := 2) rfl rfl) Tryz.isAgg28 rfl rfl) ?_
              refine VA.take (i := 10) rfl (by kernel_rfl) (by kernel_rfl) (by kernel_rfl) rfl rfl (OpV.move (.inl rfl) rfl) ?_
              refine VA.take (i := 11) rfl (by kernel_rfl) (by kernel_rfl) (by kernel_rfl) rfl rfl (OpV.indexAddr_E rfl Tryz.underlying28 Tryz.sizeOf111 rfl rfl rfl (by omega)) ?_
              refine VA.take (i := 12) rfl (by kernel_rfl) (by kernel_rfl) (by kernel_rfl) rfl rfl (OpV.fieldAddr_atO 1 rfl Tryz.underlying111 rfl rfl Tryz.sizeOf3 rfl rfl) ?_
              refine VA.take (i := 13) rfl (by kernel_rfl) (by kernel_rfl) (by kernel_rfl) rfl rfl (OpV.load_at rfl hB (by first | exact OutW.wi1 (k := 0) rfl rfl | exact OutW.wi1 (k := 1) rfl rfl | exact OutW.wi1 (k := 2) rfl rfl) Tryz.isAgg3 rfl rfl) ?_
              refine VA.take (i := 14) rfl (by kernel_rfl) (by kernel_rfl) (by kernel_rfl) rfl rfl (OpV.mul rfl rfl rfl (by unfold fits; omega)) ?_
              refine VA.take (i := 15) rfl (by kernel_rfl) (by kernel_rfl) (by kernel_rfl) rfl rfl (OpV.add rfl rfl rfl (by unfold fits; omega)) ?_
              refine VA.take (i := 16) rfl (by kernel_rfl) (by kernel_rfl) (by kernel_rfl) rfl rfl (OpV.indexAddr_o rfl Tryz.underlying22 Tryz.sizeOf3 rfl rfl rfl (by omega)) ?_
              refine VA.all (rs := [17]) (by kernel_rfl) (by decide) ?_
              refine ⟨⟨_, rfl, .inl rfl, ?_⟩, trivial⟩
              refine OpE.store1 (i := 0) rfl hB rfl Tryz.sizeOf3 rfl rfl rfl rfl rfl rfl (by rw [intsL_len, tabI_len]; exact hkl) ((intsL_set _ _ _).trans (congrArg intsL (tabI_set' (g := fun j => cyc ms ns (g.set i (kb : Int)) j (g.set i (kb : Int)).length) (by rw [List.length_set, cyc_set (by omega) hnone, if_pos ⟨by omega, rfl⟩]) (fun j hj hne => by rw [List.length_set, cyc_set (by omega) hnone, if_neg (fun h => hne h.2.symm), Int.add_zero])))) (by first | exact ⟨rfl, rfl⟩ | exact .inl ⟨rfl, rfl⟩ | exact .inr ⟨rfl, rfl⟩ | exact ⟨rfl, trivial⟩ | exact .inl ⟨rfl, trivial⟩ | exact .inr ⟨rfl, trivial⟩ | exact ⟨by decide, rfl⟩) ?_
              refine VA.done (by kernel_rfl) ?_
              refine VC.region ?_
              refine VO.mv rfl rfl rfl rfl ?_
              refine VO.mv rfl rfl rfl rfl ?_
              refine VO.val rfl rfl (OpV.indexAddr_o rfl Tryz.underlying22 Tryz.sizeOf3 rfl rfl rfl (by omega)) ?_
              refine VO.val rfl rfl (OpV.load_own (i := 1) rfl hB Tryz.isAgg3 rfl rfl (intsT_get hkl) (fun h => h)) ?_
              refine VO.val rfl rfl (OpV.add rfl rfl rfl (by unfold fits; omega)) ?_
              refine VO.val rfl rfl (OpV.indexAddr_o rfl Tryz.underlying22 Tryz.sizeOf3 rfl rfl rfl (by omega)) ?_
              refine VO.op rfl (OpE.store1 (i := 1) rfl hB rfl Tryz.sizeOf3 rfl rfl rfl rfl rfl rfl (by rw [intsL_len, tabI_len]; exact hkl) ((intsL_set _ _ _).trans (congrArg intsL (tabI_set' (g := fun j => cnt (g.set i (kb : Int)) j (g.set i (kb : Int)).length) (by rw [List.length_set, cnt_set (by omega) hnone, if_pos ⟨by omega, rfl⟩]) (fun j hj hne => by rw [List.length_set, cnt_set (by omega) hnone, if_neg (fun h => hne h.2.symm), Int.add_zero])))) trivial ?_)
              refine VO.nil ?_
              refine VC.region ?_
              refine VO.val rfl rfl (OpV.add rfl rfl rfl (by unfold fits; omega)) ?_
              refine VO.mv rfl rfl rfl rfl ?_
              refine VO.nil ?_
              exact Exists.intro (⟨(q + 1, g.set i (kb : Int)), by show q + 1 ≤ _; omega, hI.step (fstL_ord ns).nd (by omega) hi hin hkl hk1 hk2, hG2⟩) (And.intro (Le.mk hB [0, 1, 2] ⟨rfl, rfl, rfl, rfl, rfl, rfl, rfl, rfl, trivial⟩ rfl rfl (Nat.le_refl _)) (by first | omega | (show _ < _; omega) | (simp only []; omega)))
        · have aH2 := aH2b
          try simp only [qqT, qqF, qqN, qqM, qqL, qqE] at aH2
          refine VC.exit ?_
          refine VC.sr ?_
          refine VO.mv rfl rfl rfl rfl ?_
          refine VO.ma rfl rfl rfl rfl ?_
          refine VO.ma rfl rfl rfl rfl ?_
          refine VO.ma rfl rfl rfl rfl ?_
          refine VO.nil ?_
          obtain rfl : q = ns.length := by omega
          have hsm : fstR ms ns = some g := by rw [← hG, fstG_end (by omega)]
          have hvg := fstR_valid hmf hsm
          refine VC.le _ (Le.boxI (t := 4) (i := 2) (n := ns.length) (xs := zerG g) hB hnew rfl rfl (by rw [zerG_len, hgl]) (Nat.le_refl _) (capM (by omega))) ?_
          refine VC.ret ?_
          exact Exists.intro _ (And.intro (RetV.three Tryz.results13 (ResV.tmp rfl) (ResV.tmp rfl) (ResV.tmp rfl)) (by rw [(fst_3 hf0 hsm).1, (fst_3 hf0 hsm).2, hf0, zerG_in hvg.inp]))
      ·
        refine OpE.make rfl hB rfl Tryz.underlying22 (infoOf Tryz.t3 1 (by kernel_rfl) rfl rfl) (by decide) rfl rfl (n := ms.length) rfl rfl (by omega) (made_ints _) ?_
        intro g41
        rw [intsL_len, List.length_replicate]
        refine VA.all (rs := [1]) (by kernel_rfl) (by decide) ?_
        refine ⟨⟨_, rfl, .inl rfl, ?_⟩, trivial⟩
        refine OpE.callR rfl hB rfl Tryz.call78 (line_cycles_R (ns := []) (plan := []) hmf needsF_nil (planF_nil hmf)) (ArgsP.cons (ArgP.ev rfl) (ArgsP.cons (ArgP.nil rfl) (ArgsP.cons (ArgP.nil rfl) (ArgsP.nil)))) ?_
        intro u38
        refine VA.take (i := 5) rfl (by kernel_rfl) (by kernel_rfl) (by kernel_rfl) rfl rfl (OpV.move (.inr rfl) rfl) ?_
        refine VA.take (i := 6) rfl (by kernel_rfl) (by kernel_rfl) (by kernel_rfl) rfl rfl (OpV.move (.inr rfl) rfl) ?_
        refine VA.done (by kernel_rfl) ?_
        refine VC.sr ?_
        refine VO.val rfl rfl (OpV.load_at rfl hB OutW.no Tryz.isAgg28 rfl rfl) ?_
        refine VO.val rfl rfl (OpV.len_im rfl Tryz.underlying28 rfl) ?_
        refine VO.op rfl (OpE.make rfl hB rfl Tryz.underlying22 (infoOf Tryz.t3 1 (by kernel_rfl) rfl rfl) (by decide) rfl rfl (n := ns.length) rfl rfl (by omega) (made_ints _) ?_)
        intro g44
        rw [intsL_len, List.length_replicate]
        refine VO.ma rfl rfl rfl rfl ?_
        refine VO.nil ?_
        refine VC.seq ?_
        refine VC.seq ?_
        have hfl : (fstL ns).length = ns.length := by rw [(fstL_perm ns).length_eq, idO_len]
        first | refine VC.asBox (i := 0) (n := ms.length) (sz := 1) rfl hlen.1 (fun g38 cap hu hcap hmx => ?_) | (refine VC.le _ (Le.pickH [1, 0, 2] rfl rfl) ?_; refine VC.asBox (i := 0) (n := ms.length) (sz := 1) rfl hlen.1 (fun g38 cap hu hcap hmx => ?_))
        subst hu
        refine VC.region ?_
        refine VO.mv rfl rfl rfl rfl ?_
        refine VO.val rfl rfl (OpV.len_im rfl Tryz.underlying22 rfl) ?_
        refine VO.mv rfl rfl rfl rfl ?_
        refine VO.nil ?_
        refine VC.block ?_
        refine VC.loopK [(0, _), (3, _), (10, _), (11, _), (12, _), (45, _), (46, _)] ⟨rfl, rfl, rfl, rfl, rfl, rfl, rfl, trivial⟩ ({z : Nat × List Int // z.1 ≤ ns.length ∧ FstI ms ns (fstL ns) z.1 z.2 ∧ fstG ms ns ((fstL ns).drop z.1) z.2 = fstR ms ns}) (fun (iZ : {z : Nat × List Int // z.1 ≤ ns.length ∧ FstI ms ns (fstL ns) z.1 z.2 ∧ fstG ms ns ((fstL ns).drop z.1) z.2 = fstR ms ns}) => match iZ with | ⟨⟨q, g⟩, hq, hI, hG⟩ => [(47, avI (q : Int))]) (fun (iZ : {z : Nat × List Int // z.1 ≤ ns.length ∧ FstI ms ns (fstL ns) z.1 z.2 ∧ fstG ms ns ((fstL ns).drop z.1) z.2 = fstR ms ns}) => match iZ with | ⟨⟨q, g⟩, hq, hI, hG⟩ => [.box g38 ⟨intsL (tabI ms.length fun k => cyc ms ns g k g.length), 3, cap * 1⟩, .box g41 ⟨intsL (tabI ms.length fun k => cnt g k g.length), 3, ms.length⟩, .box g44 ⟨intsL (zerG g), 3, ns.length⟩]) (fun (iZ : {z : Nat × List Int // z.1 ≤ ns.length ∧ FstI ms ns (fstL ns) z.1 z.2 ∧ fstG ms ns ((fstL ns).drop z.1) z.2 = fstR ms ns}) => match iZ with | ⟨⟨q, g⟩, hq, hI, hG⟩ => 0) (fun (iZ : {z : Nat × List Int // z.1 ≤ ns.length ∧ FstI ms ns (fstL ns) z.1 z.2 ∧ fstG ms ns ((fstL ns).drop z.1) z.2 = fstR ms ns}) => match iZ with | ⟨⟨q, g⟩, hq, hI, hG⟩ => ns.length - q) ⟨(0, List.replicate ns.length (-1)), Nat.zero_le _, FstI.zero hmf _, rfl⟩ (Le.mk hB [0, 1, 2] ⟨rfl, rfl, rfl, rfl, rfl, rfl, rfl, rfl, trivial⟩ rfl (by dsimp only; rw [← cycL_fix, ← cnt_fix, zerG_rep]; rfl) (Nat.le_refl _)) ?_
        rintro ⟨⟨q, g⟩, hq, hI, hG⟩
        show VC _ _ _ _ ⟨[(47, avI (q : Int))] ++ [(0, _), (3, _), (10, _), (11, _), (12, _), (45, _), (46, _)], [.box g38 ⟨intsL (tabI ms.length fun k => cyc ms ns g k g.length), 3, cap * 1⟩, .box g41 ⟨intsL (tabI ms.length fun k => cnt g k g.length), 3, ms.length⟩, .box g44 ⟨intsL (zerG g), 3, ns.length⟩], 0⟩
        simp only at hq hI hG
        have hgl := hI.len
        refine VC.sr ?_
        refine VO.val rfl rfl (OpV.lss rfl rfl rfl) ?_
        refine VO.nil ?_
        refine VC.seq ?_
        refine VC.cond rfl (fun aH6b => ?_) (fun aH6b => ?_)
        · have aH6 := aH6b
          try simp only [qqT, qqF, qqN, qqM, qqL, qqE] at aH6
          obtain ⟨i, hi, hin⟩ : ∃ i : Nat, (fstL ns).getD q 0 = (i : Int) ∧ i < ns.length := by
            have hx := (fstL_ord ns).lt ((fstL ns).getD q 0) (by rw [List.getD_eq_getElem?_getD, List.getElem?_eq_getElem (by omega)]; exact List.getElem_mem _)
            exact ⟨((fstL ns).getD q 0).toNat, by omega, by omega⟩
          have hnone := hI.none (fstL_ord ns).nd (by omega) hi hin
          refine VC.skip ?_
          refine VC.seq ?_
          refine VC.block ?_
          refine VC.sr ?_
          refine VO.val rfl rfl (OpV.indexAddr_1 rfl Tryz.underlying22 Tryz.sizeOf3 rfl rfl rfl (by omega)) ?_
          refine VO.val rfl rfl (OpV.load_at rfl hB OutW.no Tryz.isAgg3 rfl rfl) ?_
          refine VO.le _ (Le.recast (t := 50) (y := avI (i : Int)) rfl (fun w Z u h => by rw [← hi]; exact h)) ?_
          refine VO.ma rfl rfl rfl rfl ?_
          refine VO.nil ?_
          refine VC.sr ?_
          refine VO.ma rfl rfl rfl rfl ?_
          refine VO.nil ?_
          refine VC.seq ?_
          refine VC.sr ?_
          refine VO.mv rfl rfl rfl rfl ?_
          refine VO.val rfl rfl (OpV.len_im rfl Tryz.underlying26 rfl) ?_
          refine VO.mv rfl rfl rfl rfl ?_
          refine VO.nil ?_
          refine VC.block ?_
          refine VC.loopK [(0, _), (3, _), (10, _), (11, _), (12, _), (14, _), (45, _), (46, _), (47, _), (51, _), (52, _)] ⟨rfl, rfl, rfl, rfl, rfl, rfl, rfl, rfl, rfl, rfl, rfl, trivial⟩ ({k : Nat // k ≤ ms.length}) (fun (iZ : {k : Nat // k ≤ ms.length}) => match iZ with | ⟨k, hk⟩ => [(15, avI (pckF (fstC ms ns g i) (fstO ms ns g i) k)), (53, avI (k : Int))]) (fun (iZ : {k : Nat // k ≤ ms.length}) => match iZ with | ⟨k, hk⟩ => [.box g38 ⟨intsL (tabI ms.length fun k => cyc ms ns g k g.length), 3, cap * 1⟩, .box g41 ⟨intsL (tabI ms.length fun k => cnt g k g.length), 3, ms.length⟩, .box g44 ⟨intsL (zerG g), 3, ns.length⟩]) (fun (iZ : {k : Nat // k ≤ ms.length}) => match iZ with | ⟨k, hk⟩ => 0) (fun (iZ : {k : Nat // k ≤ ms.length}) => match iZ with | ⟨k, hk⟩ => ms.length - k) ⟨0, Nat.zero_le _⟩ (Le.mk hB [0, 1, 2] ⟨rfl, rfl, rfl, rfl, rfl, rfl, rfl, rfl, rfl, rfl, rfl, rfl, rfl, trivial⟩ rfl rfl (Nat.le_refl _)) ?_
          rintro ⟨k, hk⟩
          show VC _ _ _ _ ⟨[(15, avI (pckF (fstC ms ns g i) (fstO ms ns g i) k)), (53, avI (k : Int))] ++ [(0, _), (3, _), (10, _), (11, _), (12, _), (14, _), (45, _), (46, _), (47, _), (51, _), (52, _)], [.box g38 ⟨intsL (tabI ms.length fun k => cyc ms ns g k g.length), 3, cap * 1⟩, .box g41 ⟨intsL (tabI ms.length fun k => cnt g k g.length), 3, ms.length⟩, .box g44 ⟨intsL (zerG g), 3, ns.length⟩], 0⟩
          have hpb := pck_bd (fstC ms ns g i) (fstO ms ns g i) k
          have hcn := cnt_le g k g.length
          have hcy := cyc_bd hM (pl := g) (k := k) (Nat.le_refl _)
          have hcb := cyc_bd hM (pl := g) (k := (pckF (fstC ms ns g i) (fstO ms ns g i) k).toNat) (Nat.le_refl _)
          have hmu := mul_in2 (hM.each k) (hM.cnt i)
          have hmb := mul_in2 (hM.each (pckF (fstC ms ns g i) (fstO ms ns g i) k).toNat) (hM.cnt i)
          refine VC.sr ?_
          refine VO.val rfl rfl (OpV.lss rfl rfl rfl) ?_
          refine VO.nil ?_
          refine VC.seq ?_
          refine VC.cond rfl (fun aH7b => ?_) (fun aH7b => ?_)
          · have aH7 := aH7b
            try simp only [qqT, qqF, qqN, qqM, qqL, qqE] at aH7
            refine VC.skip ?_
            refine VC.seq ?_
            refine VC.block ?_
            refine VC.sr ?_
            refine VO.mv rfl rfl rfl rfl ?_
            refine VO.val rfl rfl (OpV.indexAddr_E rfl Tryz.underlying26 Tryz.sizeOf106 rfl rfl rfl (by omega)) ?_
            refine VO.val rfl rfl (OpV.loadK_at rfl hB OutW.no Tryz.isAgg106 Tryz.sizeOf106 rfl rfl) ?_
            refine VO.op rfl (OpE.alloc rfl hB rfl Tryz.zeroValue106 rfl ?_)
            intro g17
            refine VO.ma rfl rfl rfl rfl ?_
            refine VO.op rfl (OpE.store (i := 3) rfl hB rfl Tryz.sizeOf106 rfl rfl rfl rfl rfl rfl (Nle rfl) trivial ?_)
            refine VO.nil ?_
            refine VC.seq ?_
            refine VC.seq ?_
            refine VC.draw (fun _ => NoB) hB (by kernel_rfl) ?_
            refine VA.take (i := 0) rfl (by kernel_rfl) (by kernel_rfl) (by kernel_rfl) rfl rfl (OpV.loadK_own (i := 3) rfl hB Tryz.isAgg106 Tryz.sizeOf106 rfl rfl rfl Wi.not0) ?_
            refine VA.take (i := 1) rfl (by kernel_rfl) (by kernel_rfl) (by kernel_rfl) rfl rfl (OpV.load_at rfl hB OutW.wi0 Tryz.isAgg28 rfl rfl) ?_
            refine VA.take (i := 2) rfl (by kernel_rfl) (by kernel_rfl) (by kernel_rfl) rfl rfl (OpV.move (.inl rfl) rfl) ?_
            refine VA.take (i := 3) rfl (by kernel_rfl) (by kernel_rfl) (by kernel_rfl) rfl rfl (OpV.indexAddr_E rfl Tryz.underlying28 Tryz.sizeOf111 rfl rfl rfl (by omega)) ?_
            refine VA.take (i := 4) rfl (by kernel_rfl) (by kernel_rfl) (by kernel_rfl) rfl rfl (OpV.fieldAddr_atO 0 rfl Tryz.underlying111 rfl rfl Tryz.sizeOf9 rfl rfl) ?_
            refine VA.take (i := 5) rfl (by kernel_rfl) (by kernel_rfl) (by kernel_rfl) rfl rfl (OpV.load_at rfl hB OutW.wi0 Tryz.isAgg9 rfl rfl) ?_
            refine VA.all (rs := [6]) (by kernel_rfl) (by decide) ?_
            refine ⟨⟨_, rfl, .inl rfl, ?_⟩, trivial⟩
            refine OpE.call rfl hB rfl Tryz.call79 rfl (SpecN.spec (line_can (by have := canF_keys (machF_each hmf (i := k) (by omega)).2; omega) (canF_sort (machF_each hmf (by omega)).2))) ?_
            rintro _ rfl
            refine VA.take (i := 7) rfl (by kernel_rfl) (by kernel_rfl) (by kernel_rfl) rfl rfl (OpV.not rfl rfl) ?_
            refine VA.take (i := 8) rfl (by kernel_rfl) (by kernel_rfl) (by kernel_rfl) rfl rfl (OpV.move (.inl rfl) rfl) ?_
            refine VA.split (t := 66) rfl (fun aK8b => ?_) (fun aK8b => ?_)
            · have aK8 := aK8b
              try simp only [qqT, qqF, qqN, qqM, qqL, qqE] at aK8
              refine VA.takeX (i := 9) rfl (by kernel_rfl) (by kernel_rfl) (by kernel_rfl) rfl rfl rfl rfl aK8b ?_
              refine VA.takeX (i := 10) rfl (by kernel_rfl) (by kernel_rfl) (by kernel_rfl) rfl rfl rfl rfl aK8b ?_
              refine VA.takeX (i := 11) rfl (by kernel_rfl) (by kernel_rfl) (by kernel_rfl) rfl rfl rfl rfl aK8b ?_
              refine VA.takeX (i := 12) rfl (by kernel_rfl) (by kernel_rfl) (by kernel_rfl) rfl rfl rfl rfl aK8b ?_
              refine VA.takeX (i := 13) rfl (by kernel_rfl) (by kernel_rfl) (by kernel_rfl) rfl rfl rfl rfl aK8b ?_
              refine VA.takeX (i := 14) rfl (by kernel_rfl) (by kernel_rfl) (by kernel_rfl) rfl rfl rfl rfl aK8b ?_
              refine VA.takeX (i := 15) rfl (by kernel_rfl) (by kernel_rfl) (by kernel_rfl) rfl rfl rfl rfl aK8b ?_
              refine VA.take (i := 16) rfl (by kernel_rfl) (by kernel_rfl) (by kernel_rfl) rfl rfl (OpV.pickT rfl rfl rfl rfl aK8b) ?_
              refine VA.done (by kernel_rfl) ?_
              refine VC.condT rfl rfl ?_
              refine VC.exit ?_
              refine VC.region ?_
              refine VO.val rfl rfl (OpV.add rfl rfl rfl (by unfold fits; omega)) ?_
              refine VO.mv rfl rfl rfl rfl ?_
              refine VO.nil ?_
              exact Exists.intro (⟨k + 1, by omega⟩) (And.intro (Le.mk hB [0, 1, 2] ⟨(by dsimp only; first | (rw [pck_n1 (fstO_f1 (by assumption))]; rfl) | (rw [pck_n1 (fstO_f2 (by omega))]; rfl) | (rw [pck_y (fstO_t (by assumption) (by omega)) (.inl (by assumption))]; rfl) | (rw [pck_y (fstO_t (by assumption) (by omega)) (.inr (fstC_lt.2 (by omega)))]; rfl) | (rw [pck_n2 (by omega) (fun e => absurd (fstC_lt.1 e) (by omega))]; rfl)), rfl, rfl, rfl, rfl, rfl, rfl, rfl, rfl, rfl, rfl, rfl, rfl, trivial⟩ rfl rfl (Nat.le_refl _)) (by first | omega | (show _ < _; omega) | (simp only []; omega)))
            · have aK8 := aK8b
              try simp only [qqT, qqF, qqN, qqM, qqL, qqE] at aK8
              refine VA.takeY (i := 9) rfl (by kernel_rfl) (by kernel_rfl) (by kernel_rfl) rfl rfl rfl rfl aK8b (OpV.move (.inl rfl) rfl) ?_
              refine VA.takeY (i := 10) rfl (by kernel_rfl) (by kernel_rfl) (by kernel_rfl) rfl rfl rfl rfl aK8b (OpV.move (.inl rfl) rfl) ?_
              refine VA.takeY (i := 11) rfl (by kernel_rfl) (by kernel_rfl) (by kernel_rfl) rfl rfl rfl rfl aK8b (OpV.indexAddr_o rfl Tryz.underlying22 Tryz.sizeOf3 rfl rfl rfl (by omega)) ?_
              refine VA.takeY (i := 12) rfl (by kernel_rfl) (by kernel_rfl) (by kernel_rfl) rfl rfl rfl rfl aK8b (OpV.load_own (i := 1) rfl hB Tryz.isAgg3 rfl rfl (intsT_get (by omega)) Wi.not0) ?_
              refine VA.takeY (i := 13) rfl (by kernel_rfl) (by kernel_rfl) (by kernel_rfl) rfl rfl rfl rfl aK8b (OpV.fieldAddrO 3 rfl Tryz.underlying106 rfl rfl Tryz.sizeOf3 rfl) ?_
              refine VA.takeY (i := 14) rfl (by kernel_rfl) (by kernel_rfl) (by kernel_rfl) rfl rfl rfl rfl aK8b (OpV.load_own (i := 3) rfl hB Tryz.isAgg3 rfl rfl rfl Wi.not0) ?_
              refine VA.takeY (i := 15) rfl (by kernel_rfl) (by kernel_rfl) (by kernel_rfl) rfl rfl rfl rfl aK8b (OpV.geq rfl rfl rfl) ?_
              refine VA.take (i := 16) rfl (by kernel_rfl) (by kernel_rfl) (by kernel_rfl) rfl rfl (OpV.pickF rfl rfl rfl rfl aK8b) ?_
              refine VA.done (by kernel_rfl) ?_
              refine VC.cond rfl (fun h4b => ?_) (fun h4b => ?_)
              · have h4 := h4b
                try simp only [qqT, qqF, qqN, qqM, qqL, qqE] at h4
                refine VC.exit ?_
                refine VC.region ?_
                refine VO.val rfl rfl (OpV.add rfl rfl rfl (by unfold fits; omega)) ?_
                refine VO.mv rfl rfl rfl rfl ?_
                refine VO.nil ?_
                exact Exists.intro (⟨k + 1, by omega⟩) (And.intro (Le.mk hB [0, 1, 2] ⟨(by dsimp only; first | (rw [pck_n1 (fstO_f1 (by assumption))]; rfl) | (rw [pck_n1 (fstO_f2 (by omega))]; rfl) | (rw [pck_y (fstO_t (by assumption) (by omega)) (.inl (by assumption))]; rfl) | (rw [pck_y (fstO_t (by assumption) (by omega)) (.inr (fstC_lt.2 (by omega)))]; rfl) | (rw [pck_n2 (by omega) (fun e => absurd (fstC_lt.1 e) (by omega))]; rfl)), rfl, rfl, rfl, rfl, rfl, rfl, rfl, rfl, rfl, rfl, rfl, rfl, trivial⟩ rfl rfl (Nat.le_refl _)) (by first | omega | (show _ < _; omega) | (simp only []; omega)))
              · have h4 := h4b
                try simp only [qqT, qqF, qqN, qqM, qqL, qqE] at h4
                refine VC.skip ?_
                refine VC.seq ?_
                refine VC.draw (fun _ => NoB) hB (by kernel_rfl) ?_
                refine VA.take (i := 0) rfl (by kernel_rfl) (by kernel_rfl) (by kernel_rfl) rfl rfl (OpV.move (.inl rfl) rfl) ?_
                refine VA.take (i := 1) rfl (by kernel_rfl) (by kernel_rfl) (by kernel_rfl) rfl rfl (OpV.lss rfl rfl rfl) ?_
                refine VA.take (i := 2) rfl (by kernel_rfl) (by kernel_rfl) (by kernel_rfl) rfl rfl (OpV.move (.inl rfl) rfl) ?_
                refine VA.split (t := 77) rfl (fun aK9b => ?_) (fun aK9b => ?_)
                · have aK9 := aK9b
                  try simp only [qqT, qqF, qqN, qqM, qqL, qqE] at aK9
                  refine VA.takeX (i := 3) rfl (by kernel_rfl) (by kernel_rfl) (by kernel_rfl) rfl rfl rfl rfl aK9b ?_
                  refine VA.takeX (i := 4) rfl (by kernel_rfl) (by kernel_rfl) (by kernel_rfl) rfl rfl rfl rfl aK9b ?_
                  refine VA.takeX (i := 5) rfl (by kernel_rfl) (by kernel_rfl) (by kernel_rfl) rfl rfl rfl rfl aK9b ?_
                  refine VA.takeX (i := 6) rfl (by kernel_rfl) (by kernel_rfl) (by kernel_rfl) rfl rfl rfl rfl aK9b ?_
                  refine VA.takeX (i := 7) rfl (by kernel_rfl) (by kernel_rfl) (by kernel_rfl) rfl rfl rfl rfl aK9b ?_
                  refine VA.takeX (i := 8) rfl (by kernel_rfl) (by kernel_rfl) (by kernel_rfl) rfl rfl rfl rfl aK9b ?_
                  refine VA.takeX (i := 9) rfl (by kernel_rfl) (by kernel_rfl) (by kernel_rfl) rfl rfl rfl rfl aK9b ?_
                  refine VA.takeX (i := 10) rfl (by kernel_rfl) (by kernel_rfl) (by kernel_rfl) rfl rfl rfl rfl aK9b ?_
                  refine VA.takeX (i := 11) rfl (by kernel_rfl) (by kernel_rfl) (by kernel_rfl) rfl rfl rfl rfl aK9b ?_
                  refine VA.takeX (i := 12) rfl (by kernel_rfl) (by kernel_rfl) (by kernel_rfl) rfl rfl rfl rfl aK9b ?_
                  refine VA.takeX (i := 13) rfl (by kernel_rfl) (by kernel_rfl) (by kernel_rfl) rfl rfl rfl rfl aK9b ?_
                  refine VA.takeX (i := 14) rfl (by kernel_rfl) (by kernel_rfl) (by kernel_rfl) rfl rfl rfl rfl aK9b ?_
                  refine VA.takeX (i := 15) rfl (by kernel_rfl) (by kernel_rfl) (by kernel_rfl) rfl rfl rfl rfl aK9b ?_
                  refine VA.takeX (i := 16) rfl (by kernel_rfl) (by kernel_rfl) (by kernel_rfl) rfl rfl rfl rfl aK9b ?_
                  refine VA.takeX (i := 17) rfl (by kernel_rfl) (by kernel_rfl) (by kernel_rfl) rfl rfl rfl rfl aK9b ?_
                  refine VA.takeX (i := 18) rfl (by kernel_rfl) (by kernel_rfl) (by kernel_rfl) rfl rfl rfl rfl aK9b ?_
                  refine VA.takeX (i := 19) rfl (by kernel_rfl) (by kernel_rfl) (by kernel_rfl) rfl rfl rfl rfl aK9b ?_
                  refine VA.takeX (i := 20) rfl (by kernel_rfl) (by kernel_rfl) (by kernel_rfl) rfl rfl rfl rfl aK9b ?_
                  refine VA.takeX (i := 21) rfl (by kernel_rfl) (by kernel_rfl) (by kernel_rfl) rfl rfl rfl rfl aK9b ?_
                  refine VA.takeX (i := 22) rfl (by kernel_rfl) (by kernel_rfl) (by kernel_rfl) rfl rfl rfl rfl aK9b ?_
                  refine VA.takeX (i := 23) rfl (by kernel_rfl) (by kernel_rfl) (by kernel_rfl) rfl rfl rfl rfl aK9b ?_
                  refine VA.takeX (i := 24) rfl (by kernel_rfl) (by kernel_rfl) (by kernel_rfl) rfl rfl rfl rfl aK9b ?_
                  refine VA.takeX (i := 25) rfl (by kernel_rfl) (by kernel_rfl) (by kernel_rfl) rfl rfl rfl rfl aK9b ?_
                  refine VA.takeX (i := 26) rfl (by kernel_rfl) (by kernel_rfl) (by kernel_rfl) rfl rfl rfl rfl aK9b ?_
                  refine VA.takeX (i := 27) rfl (by kernel_rfl) (by kernel_rfl) (by kernel_rfl) rfl rfl rfl rfl aK9b ?_
                  refine VA.takeX (i := 28) rfl (by kernel_rfl) (by kernel_rfl) (by kernel_rfl) rfl rfl rfl rfl aK9b ?_
                  refine VA.takeX (i := 29) rfl (by kernel_rfl) (by kernel_rfl) (by kernel_rfl) rfl rfl rfl rfl aK9b ?_
                  refine VA.takeX (i := 30) rfl (by kernel_rfl) (by kernel_rfl) (by kernel_rfl) rfl rfl rfl rfl aK9b ?_
                  refine VA.takeX (i := 31) rfl (by kernel_rfl) (by kernel_rfl) (by kernel_rfl) rfl rfl rfl rfl aK9b ?_
                  refine VA.takeX (i := 32) rfl (by kernel_rfl) (by kernel_rfl) (by kernel_rfl) rfl rfl rfl rfl aK9b ?_
                  refine VA.take (i := 33) rfl (by kernel_rfl) (by kernel_rfl) (by kernel_rfl) rfl rfl (OpV.pickT rfl rfl rfl rfl aK9b) ?_
                  refine VA.done (by kernel_rfl) ?_
                  refine VC.condT rfl rfl ?_
                  refine VC.region ?_
                  refine VO.mv rfl rfl rfl rfl ?_
                  refine VO.ma rfl rfl rfl rfl ?_
                  refine VO.nil ?_
                  refine VC.region ?_
                  refine VO.val rfl rfl (OpV.add rfl rfl rfl (by unfold fits; omega)) ?_
                  refine VO.mv rfl rfl rfl rfl ?_
                  refine VO.nil ?_
                  exact Exists.intro (⟨k + 1, by omega⟩) (And.intro (Le.mk hB [0, 1, 2] ⟨(by dsimp only; first | (rw [pck_n1 (fstO_f1 (by assumption))]; rfl) | (rw [pck_n1 (fstO_f2 (by omega))]; rfl) | (rw [pck_y (fstO_t (by assumption) (by omega)) (.inl (by assumption))]; rfl) | (rw [pck_y (fstO_t (by assumption) (by omega)) (.inr (fstC_lt.2 (by omega)))]; rfl) | (rw [pck_n2 (by omega) (fun e => absurd (fstC_lt.1 e) (by omega))]; rfl)), rfl, rfl, rfl, rfl, rfl, rfl, rfl, rfl, rfl, rfl, rfl, rfl, trivial⟩ rfl rfl (Nat.le_refl _)) (by first | omega | (show _ < _; omega) | (simp only []; omega)))
                · have aK9 := aK9b
                  try simp only [qqT, qqF, qqN, qqM, qqL, qqE] at aK9
                  refine VA.takeY (i := 3) rfl (by kernel_rfl) (by kernel_rfl) (by kernel_rfl) rfl rfl rfl rfl aK9b (OpV.move (.inl rfl) rfl) ?_
                  refine VA.takeY (i := 4) rfl (by kernel_rfl) (by kernel_rfl) (by kernel_rfl) rfl rfl rfl rfl aK9b (OpV.move (.inl rfl) rfl) ?_
                  refine VA.takeY (i := 5) rfl (by kernel_rfl) (by kernel_rfl) (by kernel_rfl) rfl rfl rfl rfl aK9b (OpV.indexAddr_o rfl Tryz.underlying22 Tryz.sizeOf3 rfl rfl rfl (by omega)) ?_
                  refine VA.takeY (i := 6) rfl (by kernel_rfl) (by kernel_rfl) (by kernel_rfl) rfl rfl rfl rfl aK9b (OpV.load_own (i := 0) rfl hB Tryz.isAgg3 rfl rfl (intsT_get (by omega)) Wi.not0) ?_
                  refine VA.takeY (i := 7) rfl (by kernel_rfl) (by kernel_rfl) (by kernel_rfl) rfl rfl rfl rfl aK9b (OpV.fieldAddrO 1 rfl Tryz.underlying106 rfl rfl Tryz.sizeOf3 rfl) ?_
                  refine VA.takeY (i := 8) rfl (by kernel_rfl) (by kernel_rfl) (by kernel_rfl) rfl rfl rfl rfl aK9b (OpV.load_own (i := 3) rfl hB Tryz.isAgg3 rfl rfl rfl Wi.not0) ?_
                  refine VA.takeY (i := 9) rfl (by kernel_rfl) (by kernel_rfl) (by kernel_rfl) rfl rfl rfl rfl aK9b (OpV.load_at rfl hB OutW.wi0 Tryz.isAgg28 rfl rfl) ?_
                  refine VA.takeY (i := 10) rfl (by kernel_rfl) (by kernel_rfl) (by kernel_rfl) rfl rfl rfl rfl aK9b (OpV.move (.inl rfl) rfl) ?_
                  refine VA.takeY (i := 11) rfl (by kernel_rfl) (by kernel_rfl) (by kernel_rfl) rfl rfl rfl rfl aK9b (OpV.indexAddr_E rfl Tryz.underlying28 Tryz.sizeOf111 rfl rfl rfl (by omega)) ?_
                  refine VA.takeY (i := 12) rfl (by kernel_rfl) (by kernel_rfl) (by kernel_rfl) rfl rfl rfl rfl aK9b (OpV.fieldAddr_atO 1 rfl Tryz.underlying111 rfl rfl Tryz.sizeOf3 rfl rfl) ?_
                  refine VA.takeY (i := 13) rfl (by kernel_rfl) (by kernel_rfl) (by kernel_rfl) rfl rfl rfl rfl aK9b (OpV.load_at rfl hB OutW.wi0 Tryz.isAgg3 rfl rfl) ?_
                  refine VA.takeY (i := 14) rfl (by kernel_rfl) (by kernel_rfl) (by kernel_rfl) rfl rfl rfl rfl aK9b (OpV.mul rfl rfl rfl (by unfold fits; omega)) ?_
                  refine VA.takeY (i := 15) rfl (by kernel_rfl) (by kernel_rfl) (by kernel_rfl) rfl rfl rfl rfl aK9b (OpV.add rfl rfl rfl (by unfold fits; omega)) ?_
                  refine VA.takeY (i := 16) rfl (by kernel_rfl) (by kernel_rfl) (by kernel_rfl) rfl rfl rfl rfl aK9b (OpV.move (.inl rfl) rfl) ?_
                  refine VA.takeY (i := 17) rfl (by kernel_rfl) (by kernel_rfl) (by kernel_rfl) rfl rfl rfl rfl aK9b (OpV.move (.inl rfl) rfl) ?_
                  refine VA.takeY (i := 18) rfl (by kernel_rfl) (by kernel_rfl) (by kernel_rfl) rfl rfl rfl rfl aK9b (OpV.indexAddr_o rfl Tryz.underlying22 Tryz.sizeOf3 rfl rfl (Int.toNat_of_nonneg (by omega)).symm (by omega)) ?_
                  refine VA.takeY (i := 19) rfl (by kernel_rfl) (by kernel_rfl) (by kernel_rfl) rfl rfl rfl rfl aK9b (OpV.load_own (i := 0) rfl hB Tryz.isAgg3 rfl rfl (intsT_get (by omega)) Wi.not0) ?_
                  refine VA.takeY (i := 20) rfl (by kernel_rfl) (by kernel_rfl) (by kernel_rfl) rfl rfl rfl rfl aK9b (OpV.move (.inl rfl) rfl) ?_
                  refine VA.takeY (i := 21) rfl (by kernel_rfl) (by kernel_rfl) (by kernel_rfl) rfl rfl rfl rfl aK9b (OpV.move (.inl rfl) rfl) ?_
                  refine VA.takeY (i := 22) rfl (by kernel_rfl) (by kernel_rfl) (by kernel_rfl) rfl rfl rfl rfl aK9b (OpV.indexAddr_E rfl Tryz.underlying26 Tryz.sizeOf106 rfl rfl (Int.toNat_of_nonneg (by omega)).symm (by omega)) ?_
                  refine VA.takeY (i := 23) rfl (by kernel_rfl) (by kernel_rfl) (by kernel_rfl) rfl rfl rfl rfl aK9b (OpV.fieldAddr_atO 1 rfl Tryz.underlying106 rfl rfl Tryz.sizeOf3 rfl rfl) ?_
                  refine VA.takeY (i := 24) rfl (by kernel_rfl) (by kernel_rfl) (by kernel_rfl) rfl rfl rfl rfl aK9b (OpV.load_at rfl hB OutW.wi0 Tryz.isAgg3 rfl rfl) ?_
                  refine VA.takeY (i := 25) rfl (by kernel_rfl) (by kernel_rfl) (by kernel_rfl) rfl rfl rfl rfl aK9b (OpV.load_at rfl hB OutW.wi0 Tryz.isAgg28 rfl rfl) ?_
                  refine VA.takeY (i := 26) rfl (by kernel_rfl) (by kernel_rfl) (by kernel_rfl) rfl rfl rfl rfl aK9b (OpV.move (.inl rfl) rfl) ?_
                  refine VA.takeY (i := 27) rfl (by kernel_rfl) (by kernel_rfl) (by kernel_rfl) rfl rfl rfl rfl aK9b (OpV.indexAddr_E rfl Tryz.underlying28 Tryz.sizeOf111 rfl rfl rfl (by omega)) ?_
                  refine VA.takeY (i := 28) rfl (by kernel_rfl) (by kernel_rfl) (by kernel_rfl) rfl rfl rfl rfl aK9b (OpV.fieldAddr_atO 1 rfl Tryz.underlying111 rfl rfl Tryz.sizeOf3 rfl rfl) ?_
                  refine VA.takeY (i := 29) rfl (by kernel_rfl) (by kernel_rfl) (by kernel_rfl) rfl rfl rfl rfl aK9b (OpV.load_at rfl hB OutW.wi0 Tryz.isAgg3 rfl rfl) ?_
                  refine VA.takeY (i := 30) rfl (by kernel_rfl) (by kernel_rfl) (by kernel_rfl) rfl rfl rfl rfl aK9b (OpV.mul rfl rfl rfl (by unfold fits; omega)) ?_
                  refine VA.takeY (i := 31) rfl (by kernel_rfl) (by kernel_rfl) (by kernel_rfl) rfl rfl rfl rfl aK9b (OpV.add rfl rfl rfl (by unfold fits; omega)) ?_
                  refine VA.takeY (i := 32) rfl (by kernel_rfl) (by kernel_rfl) (by kernel_rfl) rfl rfl rfl rfl aK9b (OpV.lss rfl rfl rfl) ?_
                  refine VA.take (i := 33) rfl (by kernel_rfl) (by kernel_rfl) (by kernel_rfl) rfl rfl (OpV.pickF rfl rfl rfl rfl aK9b) ?_
                  refine VA.done (by kernel_rfl) ?_
                  refine VC.cond rfl (fun h5b => ?_) (fun h5b => ?_)
                  · have h5 := h5b
                    try simp only [qqT, qqF, qqN, qqM, qqL, qqE] at h5
                    refine VC.region ?_
                    refine VO.mv rfl rfl rfl rfl ?_
                    refine VO.ma rfl rfl rfl rfl ?_
                    refine VO.nil ?_
                    refine VC.region ?_
                    refine VO.val rfl rfl (OpV.add rfl rfl rfl (by unfold fits; omega)) ?_
                    refine VO.mv rfl rfl rfl rfl ?_
                    refine VO.nil ?_
                    exact Exists.intro (⟨k + 1, by omega⟩) (And.intro (Le.mk hB [0, 1, 2] ⟨(by dsimp only; first | (rw [pck_n1 (fstO_f1 (by assumption))]; rfl) | (rw [pck_n1 (fstO_f2 (by omega))]; rfl) | (rw [pck_y (fstO_t (by assumption) (by omega)) (.inl (by assumption))]; rfl) | (rw [pck_y (fstO_t (by assumption) (by omega)) (.inr (fstC_lt.2 (by omega)))]; rfl) | (rw [pck_n2 (by omega) (fun e => absurd (fstC_lt.1 e) (by omega))]; rfl)), rfl, rfl, rfl, rfl, rfl, rfl, rfl, rfl, rfl, rfl, rfl, rfl, trivial⟩ rfl rfl (Nat.le_refl _)) (by first | omega | (show _ < _; omega) | (simp only []; omega)))
                  · have h5 := h5b
                    try simp only [qqT, qqF, qqN, qqM, qqL, qqE] at h5
                    refine VC.skip ?_
                    refine VC.region ?_
                    refine VO.val rfl rfl (OpV.add rfl rfl rfl (by unfold fits; omega)) ?_
                    refine VO.mv rfl rfl rfl rfl ?_
                    refine VO.nil ?_
                    exact Exists.intro (⟨k + 1, by omega⟩) (And.intro (Le.mk hB [0, 1, 2] ⟨(by dsimp only; first | (rw [pck_n1 (fstO_f1 (by assumption))]; rfl) | (rw [pck_n1 (fstO_f2 (by omega))]; rfl) | (rw [pck_y (fstO_t (by assumption) (by omega)) (.inl (by assumption))]; rfl) | (rw [pck_y (fstO_t (by assumption) (by omega)) (.inr (fstC_lt.2 (by omega)))]; rfl) | (rw [pck_n2 (by omega) (fun e => absurd (fstC_lt.1 e) (by omega))]; rfl)), rfl, rfl, rfl, rfl, rfl, rfl, rfl, rfl, rfl, rfl, rfl, rfl, trivial⟩ rfl rfl (Nat.le_refl _)) (by first | omega | (show _ < _; omega) | (simp only []; omega)))
          · have aH7 := aH7b
            try simp only [qqT, qqF, qqN, qqM, qqL, qqE] at aH7
            refine VC.exit ?_
            refine VC.seq ?_
            refine VC.sr ?_
            refine VO.mv rfl rfl rfl rfl ?_
            refine VO.val rfl rfl (OpV.lss rfl rfl rfl) ?_
            refine VO.nil ?_
            refine VC.cond rfl (fun h6b => ?_) (fun h6b => ?_)
            · have h6 := h6b
              try simp only [qqT, qqF, qqN, qqM, qqL, qqE] at h6
              have hnn : fstR ms ns = none := by
                obtain rfl : k = ms.length := by omega
                rw [← hG, fstG_step (by omega), hi, Int.toNat_natCast, if_pos (show fstB ms ns g i < 0 from h6)]
              refine VC.sr ?_
              refine VO.ma rfl rfl rfl rfl ?_
              refine VO.ma rfl rfl rfl rfl ?_
              refine VO.ma rfl rfl rfl rfl ?_
              refine VO.nil ?_
              refine VC.le _ (Le.recast (t := 4) (y := avInts []) rfl (fun w Z u h => by rw [h.eq_v]; exact .nil _ _)) ?_
              refine VC.ret ?_
              exact Exists.intro _ (And.intro (RetV.three Tryz.results13 (ResV.tmp rfl) (ResV.tmp rfl) (ResV.tmp rfl)) (by rw [(fst_2 hnn).1, (fst_2 hnn).2, hf0]))
            · have h6 := h6b
              try simp only [qqT, qqF, qqN, qqM, qqL, qqE] at h6
              obtain rfl : k = ms.length := by omega
              obtain ⟨kb, hkb, hkl, hk1, hk2⟩ := fstB_in (ms := ms) (ns := ns) (g := g) (i := i) (show ¬ fstB ms ns g i < 0 from Int.not_lt.2 h6)
              have hG2 : fstG ms ns ((fstL ns).drop (q + 1)) (g.set i (kb : Int)) = fstR ms ns := by
                have h := fstG_step (ms := ms) (ns := ns) (l := fstL ns) (g := g) (q := q) (by omega)
                rw [hG, hi, Int.toNat_natCast, if_neg (by omega), hkb] at h; exact h.symm
              have hcy2 := cyc_bd hM (pl := g) (k := kb) (Nat.le_refl _)
              have hcn2 := cnt_le g kb g.length
              have hmu2 := mul_in2 (hM.each kb) (hM.cnt i)
              refine VC.le _ (Le.recast (t := 15) (y := avI (kb : Int)) rfl (fun w Z u h => by rw [← hkb]; exact h)) ?_
              refine VC.skip ?_
              refine VC.sr ?_
              refine VO.mv rfl rfl rfl rfl ?_
              refine VO.mv rfl rfl rfl rfl ?_
              refine VO.mv rfl rfl rfl rfl ?_
              refine VO.val rfl rfl (OpV.indexAddr_o rfl Tryz.underlying22 Tryz.sizeOf3 rfl rfl rfl (by omega)) ?_
              refine VO.op rfl (OpE.store1 (i := 2) rfl hB rfl Tryz.sizeOf3 rfl rfl rfl rfl rfl rfl (by rw [intsL_len, zerG_len]; omega) ((intsL_set _ _ _).trans (congrArg intsL zerG_set)) trivial ?_)
              refine VO.nil ?_
              refine VC.seq ?_
              refine VC.draw (fun j b => j = 17 ∧ b = g38) hB (by kernel_rfl) ?_
              refine VA.take (i := 0) rfl (by kernel_rfl) (by kernel_rfl) (by kernel_rfl) rfl rfl (OpV.move (.inl rfl) rfl) ?_
              refine VA.take (i := 1) rfl (by kernel_rfl) (by kernel_rfl) (by kernel_rfl) rfl rfl (OpV.move (.inl rfl) rfl) ?_
              refine VA.take (i := 2) rfl (by kernel_rfl) (by kernel_rfl) (by kernel_rfl) rfl rfl (OpV.indexAddr_o rfl Tryz.underlying22 Tryz.sizeOf3 rfl rfl rfl (by omega)) ?_
              refine VA.take (i := 3) rfl (by kernel_rfl) (by kernel_rfl) (by kernel_rfl) rfl rfl (OpV.load_own (i := 0) rfl hB Tryz.isAgg3 rfl rfl (intsT_get hkl) (by first | exact Wi.not1 (by kernel_rfl) | exact Wi.not2 (by kernel_rfl) (by kernel_rfl) | exact Wi.notX (by kernel_rfl))) ?_
              refine VA.take (i := 4) rfl (by kernel_rfl) (by kernel_rfl) (by kernel_rfl) rfl rfl (OpV.move (.inl rfl) rfl) ?_
              refine VA.take (i := 5) rfl (by kernel_rfl) (by kernel_rfl) (by kernel_rfl) rfl rfl (OpV.move (.inl rfl) rfl) ?_
              refine VA.take (i := 6) rfl (by kernel_rfl) (by kernel_rfl) (by kernel_rfl) rfl rfl (OpV.indexAddr_E rfl Tryz.underlying26 Tryz.sizeOf106 rfl rfl rfl (by omega)) ?_
              refine VA.take (i := 7) rfl (by kernel_rfl) (by kernel_rfl) (by kernel_rfl) rfl rfl (OpV.fieldAddr_atO 1 rfl Tryz.underlying106 rfl rfl Tryz.sizeOf3 rfl rfl) ?_
              refine VA.take (i := 8) rfl (by kernel_rfl) (by kernel_rfl) (by kernel_rfl) rfl rfl (OpV.load_at rfl hB (by first | exact OutW.wi1 (k := 0) rfl rfl | exact OutW.wi1 (k := 1) rfl rfl | exact OutW.wi1 (k := 2) rfl rfl) Tryz.isAgg3 rfl rfl) ?_
              refine VA.take (i := 9) rfl (by kernel_rfl) (by kernel_rfl) (by kernel_rfl) rfl rfl (OpV.load_at rfl hB (by first | exact OutW.wi1 (k := 0) rfl rfl | exact OutW.wi1 (k := 1) rfl rfl | exact OutW.wi1 (k := 2) rfl rfl) Tryz.isAgg28 rfl rfl) ?_
              refine VA.take (i := 10) rfl (by kernel_rfl) (by kernel_rfl) (by kernel_rfl) rfl rfl (OpV.move (.inl rfl) rfl) ?_
              refine VA.take (i := 11) rfl (by kernel_rfl) (by kernel_rfl) (by kernel_rfl) rfl rfl (OpV.indexAddr_E rfl Tryz.underlying28 Tryz.sizeOf111 rfl rfl rfl (by omega)) ?_
              refine VA.take (i := 12) rfl (by kernel_rfl) (by kernel_rfl) (by kernel_rfl) rfl rfl (OpV.fieldAddr_atO 1 rfl Tryz.underlying111 rfl rfl Tryz.sizeOf3 rfl rfl) ?_
              refine VA.take (i := 13) rfl (by kernel_rfl) (by kernel_rfl) (by kernel_rfl) rfl rfl (OpV.load_at rfl hB (by first | exact OutW.wi1 (k := 0) rfl rfl | exact OutW.wi1 (k := 1) rfl rfl | exact OutW.wi1 (k := 2) rfl rfl) Tryz.isAgg3 rfl rfl) ?_
              refine VA.take (i := 14) rfl (by kernel_rfl) (by kernel_rfl) (by kernel_rfl) rfl rfl (OpV.mul rfl rfl rfl (by unfold fits; omega)) ?_
              refine VA.take (i := 15) rfl (by kernel_rfl) (by kernel_rfl) (by kernel_rfl) rfl rfl (OpV.add rfl rfl rfl (by unfold fits; omega)) ?_
              refine VA.take (i := 16) rfl (by kernel_rfl) (by kernel_rfl) (by kernel_rfl) rfl rfl (OpV.indexAddr_o rfl Tryz.underlying22 Tryz.sizeOf3 rfl rfl rfl (by omega)) ?_
              refine VA.all (rs := [17]) (by kernel_rfl) (by decide) ?_
              refine ⟨⟨_, rfl, .inl rfl, ?_⟩, trivial⟩
              refine OpE.store1 (i := 0) rfl hB rfl Tryz.sizeOf3 rfl rfl rfl rfl rfl rfl (by rw [intsL_len, tabI_len]; exact hkl) ((intsL_set _ _ _).trans (congrArg intsL (tabI_set' (g := fun j => cyc ms ns (g.set i (kb : Int)) j (g.set i (kb : Int)).length) (by rw [List.length_set, cyc_set (by omega) hnone, if_pos ⟨by omega, rfl⟩]) (fun j hj hne => by rw [List.length_set, cyc_set (by omega) hnone, if_neg (fun h => hne h.2.symm), Int.add_zero])))) (by first | exact ⟨rfl, rfl⟩ | exact .inl ⟨rfl, rfl⟩ | exact .inr ⟨rfl, rfl⟩ | exact ⟨rfl, trivial⟩ | exact .inl ⟨rfl, trivial⟩ | exact .inr ⟨rfl, trivial⟩ | exact ⟨by decide, rfl⟩) ?_
              refine VA.done (by kernel_rfl) ?_
              refine VC.region ?_
              refine VO.mv rfl rfl rfl rfl ?_
              refine VO.mv rfl rfl rfl rfl ?_
              refine VO.val rfl rfl (OpV.indexAddr_o rfl Tryz.underlying22 Tryz.sizeOf3 rfl rfl rfl (by omega)) ?_
              refine VO.val rfl rfl (OpV.load_own (i := 1) rfl hB Tryz.isAgg3 rfl rfl (intsT_get hkl) (fun h => h)) ?_
              refine VO.val rfl rfl (OpV.add rfl rfl rfl (by unfold fits; omega)) ?_
              refine VO.val rfl rfl (OpV.indexAddr_o rfl Tryz.underlying22 Tryz.sizeOf3 rfl rfl rfl (by omega)) ?_
              refine VO.op rfl (OpE.store1 (i := 1) rfl hB rfl Tryz.sizeOf3 rfl rfl rfl rfl rfl rfl (by rw [intsL_len, tabI_len]; exact hkl) ((intsL_set _ _ _).trans (congrArg intsL (tabI_set' (g := fun j => cnt (g.set i (kb : Int)) j (g.set i (kb : Int)).length) (by rw [List.length_set, cnt_set (by omega) hnone, if_pos ⟨by omega, rfl⟩]) (fun j hj hne => by rw [List.length_set, cnt_set (by omega) hnone, if_neg (fun h => hne h.2.symm), Int.add_zero])))) trivial ?_)
              refine VO.nil ?_
              refine VC.region ?_
              refine VO.val rfl rfl (OpV.add rfl rfl rfl (by unfold fits; omega)) ?_
              refine VO.mv rfl rfl rfl rfl ?_
              refine VO.nil ?_
              exact Exists.intro (⟨(q + 1, g.set i (kb : Int)), by show q + 1 ≤ _; omega, hI.step (fstL_ord ns).nd (by omega) hi hin hkl hk1 hk2, hG2⟩) (And.intro (Le.mk hB [0, 1, 2] ⟨rfl, rfl, rfl, rfl, rfl, rfl, rfl, rfl, trivial⟩ rfl rfl (Nat.le_refl _)) (by first | omega | (show _ < _; omega) | (simp only []; omega)))
        · have aH6 := aH6b
          try simp only [qqT, qqF, qqN, qqM, qqL, qqE] at aH6
          refine VC.exit ?_
          refine VC.sr ?_
          refine VO.mv rfl rfl rfl rfl ?_
          refine VO.ma rfl rfl rfl rfl ?_
          refine VO.ma rfl rfl rfl rfl ?_
          refine VO.ma rfl rfl rfl rfl ?_
          refine VO.nil ?_
          obtain rfl : q = ns.length := by omega
          have hsm : fstR ms ns = some g := by rw [← hG, fstG_end (by omega)]
          have hvg := fstR_valid hmf hsm
          refine VC.le _ (Le.boxI (t := 4) (i := 2) (n := ns.length) (xs := zerG g) hB hnew rfl rfl (by rw [zerG_len, hgl]) (Nat.le_refl _) (capM (by omega))) ?_
          refine VC.ret ?_
          exact Exists.intro _ (And.intro (RetV.three Tryz.results13 (ResV.tmp rfl) (ResV.tmp rfl) (ResV.tmp rfl)) (by rw [(fst_3 hf0 hsm).1, (fst_3 hf0 hsm).2, hf0, zerG_in hvg.inp]))
theorem line_First {ms : List Mach} {ns : List NeedS} (hm : SmallM ms) (hn : SmallN ns) (h12 : ns.length ≤ 12) : Spec Tryz.prog 13 [avL ms, avL ns] (fun y => y = .tup [avInts (fstP ms ns), avB (fstK ms ns), avI (faultF ms ns)]) :=
 line_FirstX hm hn (by omega) fun h u => sortFunc_int (c := fstO2 ns) (by rw [idO_len]; omega) Tryz.call74 (fun x y hx hy => line_First1 (by omega) (idO_mF hx) (idO_mF hy))
end Go.Proofs.YtemnnmohdpabhaaGreatDoor
