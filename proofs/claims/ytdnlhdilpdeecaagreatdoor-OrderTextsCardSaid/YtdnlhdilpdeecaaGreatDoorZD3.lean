/- Part 3 of a proof: the walks and laws that it needs. -/
import Derived.Test.YtdnlhdilpdeecaaGreatDoorProg
import Derived.Test.YtdnlhdilpdeecaaGreatDoorZD2
namespace Go.Proofs.YtdnlhdilpdeecaaGreatDoor
open Go.RowKit
set_option linter.unusedVariables false
set_option linter.unusedSimpArgs false
theorem out_t {n a b : Int} (h : (decide (a ≤ n) && decide (n ≤ b)) = false) : outR n a b = true := by rw [outR_in, h]; rfl
theorem out_f {n a b : Int} (h : (decide (a ≤ n) && decide (n ≤ b)) = true) : outR n a b = false := by rw [outR_in, h]; rfl
def ordO (x : OrdrS) : Int := if (keyF x.key && keyF x.product) = false then 5 else if (outR x.count 1 100000 || (outR x.ready 0 345686399999 || outR x.due 0 345686399999)) = true then 1 else 0
theorem ordO_5a {x : OrdrS} (h : keyF x.key = false) : ordO x = 5 := by rw [ordO, if_pos (by rw [h]; rfl)]
theorem ordO_5b {x : OrdrS} (h : keyF x.product = false) : ordO x = 5 := by rw [ordO, if_pos (by rw [h, Bool.and_false])]
theorem ordO_1 {x : OrdrS} (h1 : keyF x.key = true) (h2 : keyF x.product = true) (h : (outR x.count 1 100000 || (outR x.ready 0 345686399999 || outR x.due 0 345686399999)) = true) : ordO x = 1 := by rw [ordO, if_neg (by rw [h1, h2]; simp), if_pos h]
theorem ordO_0 {x : OrdrS} (h1 : keyF x.key = true) (h2 : keyF x.product = true) (h : (outR x.count 1 100000 || (outR x.ready 0 345686399999 || outR x.due 0 345686399999)) = false) : ordO x = 0 := by rw [ordO, if_neg (by rw [h1, h2]; simp), if_neg (by rw [h]; simp)]
theorem ordrE_o {o : List OrdrS} {i : Nat} : ordrE o i = if ordO (o.getD i default) ≠ 0 then ordO (o.getD i default) else if (decide (0 < i) && sLe (o.getD i default).key (o.getD (i - 1) default).key) = true then 7 else 0 := by
 unfold ordrE ordO
 split
 ·rw [if_pos (by decide)]
 ·split
  ·rw [if_pos (by decide)]
  ·rw [if_neg (show ¬ ((0 : Int) ≠ 0) from fun h => h rfl)]
theorem ordO_key {x : OrdrS} (h : ordO x = 0) : keyF x.key = true ∧ keyF x.product = true := by
 unfold ordO at h
 split at h
 ·cases h
 ·rename_i h1
  have : (keyF x.key && keyF x.product) = true := by simpa using h1
  rwa [Bool.and_eq_true] at this
def lastK {α : Type} [Inhabited α] (key : α → ByteArray) (l : List α) (q : Nat) : ByteArray := if q = 0 then ⟨#[]⟩ else key (l.getD (q - 1) default)
theorem lastK_succ {α : Type} [Inhabited α] (key : α → ByteArray) (l : List α) (q : Nat) : lastK key l (q + 1) = key (l.getD q default) := by simp [lastK]
theorem lastK_le {α : Type} [Inhabited α] {key : α → ByteArray} {l : List α} {q : Nat} (h : keyF (key (l.getD q default)) = true) : sLe (key (l.getD q default)) (lastK key l q) = (decide (0 < q) && sLe (key (l.getD q default)) (key (l.getD (q - 1) default))) := by
 unfold lastK
 by_cases hq : q = 0
 ·subst hq; rw [if_pos rfl, sLe_empty h]; simp
 ·rw [if_neg hq, decide_eq_true (by omega : 0 < q), Bool.true_and]
section
variable {o : List OrdrS} {q : Nat}
theorem ordrE_oe {e : Int} (h : ordO (o.getD q default) = e) (h0 : e ≠ 0) : ordrE o q = e := by rw [ordrE_o, h, if_pos h0]
theorem ordrE_o7 (h : ordO (o.getD q default) = 0) (h2 : sLe (o.getD q default).key (lastK OrdrS.key o q) = true) : ordrE o q = 7 := by
 rw [lastK_le (ordO_key h).1] at h2
 rw [ordrE_o, if_neg (by omega), if_pos h2]
theorem ordrE_o0 (h : ordO (o.getD q default) = 0) (h2 : sLe (o.getD q default).key (lastK OrdrS.key o q) = false) : ordrE o q = 0 := by
 rw [lastK_le (ordO_key h).1] at h2
 rw [ordrE_o, if_neg (by omega), if_neg (by rw [h2]; simp)]
end
theorem paceE_k {p : List PaceS} {q : Nat} (h : keyF (p.getD q default).product = true) (h2 : sLe (p.getD q default).product (lastK PaceS.product p q) = false) : q = 0 ∨ sLe (p.getD q default).product (p.getD (q - 1) default).product = false := by
 by_cases hq : q = 0
 ·exact .inl hq
 ·rw [lastK_le h, decide_eq_true (by omega : 0 < q), Bool.true_and] at h2; exact .inr h2
theorem paceE_k7 {p : List PaceS} {q : Nat} (h : keyF (p.getD q default).product = true) (h2 : sLe (p.getD q default).product (lastK PaceS.product p q) = true) : paceE p q = 7 := by
 rw [lastK_le h, Bool.and_eq_true, decide_eq_true_eq] at h2
 exact paceE_7 h h2.1 h2.2
set_option maxRecDepth 100000 in
theorem rf_Moment {n : Int}  :
  SpecN Tryz.prog 131 [avI n] (fun y => y = avB (decide (0 ≤ n) && decide (n ≤ 345686399999))) := by
 refine SpecN.of_VCN Tryz.func131 rfl Tryz.ntmps131 (Nle rfl) fun w A hB => ?_
 have hnew : True := trivial
 refine VC.sr ?_
 refine VO.ma rfl rfl rfl rfl ?_
 refine VO.nil ?_
 refine VC.sr ?_
 refine VO.mv rfl rfl rfl rfl ?_
 refine VO.op rfl (OpE.call rfl hB rfl Tryz.call97 rfl (SpecN.spec (rf_in)) ?_)
 rintro _ rfl
 refine VO.ma rfl rfl rfl rfl ?_
 refine VO.nil ?_
 refine VC.ret ?_
 exact Exists.intro _ (And.intro (RetN.one Tryz.results131 (ResN.v rfl)) (rfl))
set_option maxRecDepth 100000 in
set_option maxHeartbeats 4000000 in
theorem rf_orderFault {x : OrdrS} (h1 : x.key.size ≤ 1000000) (h2 : x.product.size ≤ 1000000) :
  SpecN Tryz.prog 169 [avOr x] (fun y => y = avI (ordO x)) := by
 refine SpecN.of_VCN Tryz.func169 rfl Tryz.ntmps169 (Nle rfl) fun w A hB => ?_
 have hnew : True := trivial
 refine VC.sr ?_
 refine VO.op rfl (OpE.box rfl hB rfl rfl rfl ?_)
 intro g1
 refine VO.ma rfl rfl rfl rfl ?_
 refine VO.nil ?_
 refine VC.seq ?_
 refine VC.block ?_
 refine VC.sr ?_
 refine VO.val rfl rfl (OpV.fieldAddrO 0 rfl Tryz.underlying104 rfl rfl Tryz.sizeOf9 rfl) ?_
 refine VO.val rfl rfl (OpV.load_own (i := 0) rfl hB Tryz.isAgg9 rfl rfl rfl (fun h => h)) ?_
 refine VO.op rfl (OpE.call rfl hB rfl Tryz.call98 rfl (SpecN.spec (rf_Key (by omega))) ?_)
 rintro _ rfl
 refine VO.val rfl rfl (OpV.not rfl rfl) ?_
 refine VO.mv rfl rfl rfl rfl ?_
 refine VO.opG rfl rfl rfl rfl (fun aK1b => ?_) (fun aK1b => ?_)
 ·replace aK1b : _ = false := aK1b
  have aK1 := aK1b
  try simp only [qqT, qqF, qqN, qqM, qqL, qqE] at aK1
  refine OpE.val (W := NoB) (OpV.fieldAddrO 1 rfl Tryz.underlying104 rfl rfl Tryz.sizeOf9 rfl) rfl ?_
  refine VO.opY rfl rfl rfl rfl aK1b ?_
  refine OpE.val (W := NoB) (OpV.load_own (i := 0) rfl hB Tryz.isAgg9 rfl rfl rfl (fun h => h)) rfl ?_
  refine VO.opY rfl rfl rfl rfl aK1b ?_
  refine OpE.call rfl hB rfl Tryz.call98 rfl (SpecN.spec (rf_Key (by omega))) ?_
  rintro _ rfl
  refine VO.opY rfl rfl rfl rfl aK1b ?_
  refine OpE.val (W := NoB) (OpV.not rfl rfl) rfl ?_
  refine VO.val rfl rfl (OpV.pickF rfl rfl rfl rfl aK1b) ?_
  refine VO.ma rfl rfl rfl rfl ?_
  refine VO.nil ?_
  refine VC.cond rfl (fun aH2b => ?_) (fun aH2b => ?_)
  ·have aH2 := aH2b
   try simp only [qqT, qqF, qqN, qqM, qqL, qqE] at aH2
   refine VC.sr ?_
   refine VO.ma rfl rfl rfl rfl ?_
   refine VO.nil ?_
   refine VC.ret ?_
   exact Exists.intro _ (And.intro (RetN.one Tryz.results169 (ResN.v rfl)) (by first | rw [ordO_5a (by assumption)] | rw [ordO_5b (by assumption)]))
  ·have aH2 := aH2b
   try simp only [qqT, qqF, qqN, qqM, qqL, qqE] at aH2
   refine VC.sr ?_
   refine VO.val rfl rfl (OpV.fieldAddrO 2 rfl Tryz.underlying104 rfl rfl Tryz.sizeOf3 rfl) ?_
   refine VO.val rfl rfl (OpV.load_own (i := 0) rfl hB Tryz.isAgg3 rfl rfl rfl (fun h => h)) ?_
   refine VO.op rfl (OpE.call rfl hB rfl Tryz.call97 rfl (SpecN.spec (rf_in)) ?_)
   rintro _ rfl
   refine VO.val rfl rfl (OpV.not rfl rfl) ?_
   refine VO.mv rfl rfl rfl rfl ?_
   refine VO.opG rfl rfl rfl rfl (fun aK3b => ?_) (fun aK3b => ?_)
   ·replace aK3b : _ = false := aK3b
    have aK3 := aK3b
    try simp only [qqT, qqF, qqN, qqM, qqL, qqE] at aK3
    refine OpE.val (W := NoB) (OpV.fieldAddrO 3 rfl Tryz.underlying104 rfl rfl Tryz.sizeOf3 rfl) rfl ?_
    refine VO.opY rfl rfl rfl rfl aK3b ?_
    refine OpE.val (W := NoB) (OpV.load_own (i := 0) rfl hB Tryz.isAgg3 rfl rfl rfl (fun h => h)) rfl ?_
    refine VO.opY rfl rfl rfl rfl aK3b ?_
    refine OpE.call rfl hB rfl Tryz.call131 rfl (SpecN.spec (rf_Moment)) ?_
    rintro _ rfl
    refine VO.opY rfl rfl rfl rfl aK3b ?_
    refine OpE.val (W := NoB) (OpV.not rfl rfl) rfl ?_
    refine VO.val rfl rfl (OpV.pickF rfl rfl rfl rfl aK3b) ?_
    refine VO.mv rfl rfl rfl rfl ?_
    refine VO.opG rfl rfl rfl rfl (fun aK4b => ?_) (fun aK4b => ?_)
    ·replace aK4b : _ = false := aK4b
     have aK4 := aK4b
     try simp only [qqT, qqF, qqN, qqM, qqL, qqE] at aK4
     refine OpE.val (W := NoB) (OpV.fieldAddrO 4 rfl Tryz.underlying104 rfl rfl Tryz.sizeOf3 rfl) rfl ?_
     refine VO.opY rfl rfl rfl rfl aK4b ?_
     refine OpE.val (W := NoB) (OpV.load_own (i := 0) rfl hB Tryz.isAgg3 rfl rfl rfl (fun h => h)) rfl ?_
     refine VO.opY rfl rfl rfl rfl aK4b ?_
     refine OpE.call rfl hB rfl Tryz.call131 rfl (SpecN.spec (rf_Moment)) ?_
     rintro _ rfl
     refine VO.opY rfl rfl rfl rfl aK4b ?_
     refine OpE.val (W := NoB) (OpV.not rfl rfl) rfl ?_
     refine VO.val rfl rfl (OpV.pickF rfl rfl rfl rfl aK4b) ?_
     refine VO.ma rfl rfl rfl rfl ?_
     refine VO.nil ?_
     refine VC.cond rfl (fun aH5b => ?_) (fun aH5b => ?_)
     ·have aH5 := aH5b
      try simp only [qqT, qqF, qqN, qqM, qqL, qqE] at aH5
      refine VC.sr ?_
      refine VO.ma rfl rfl rfl rfl ?_
      refine VO.nil ?_
      refine VC.ret ?_
      exact Exists.intro _ (And.intro (RetN.one Tryz.results169 (ResN.v rfl)) (by rw [ordO_1 (by assumption) (by assumption) (by first | exact or3a (out_t (by assumption)) | exact or3b (out_t (by assumption)) | exact or3c (out_t (by assumption)))]))
     ·have aH5 := aH5b
      try simp only [qqT, qqF, qqN, qqM, qqL, qqE] at aH5
      refine VC.skip ?_
      refine VC.sr ?_
      refine VO.ma rfl rfl rfl rfl ?_
      refine VO.nil ?_
      refine VC.ret ?_
      exact Exists.intro _ (And.intro (RetN.one Tryz.results169 (ResN.v rfl)) (by rw [ordO_0 (by assumption) (by assumption) (or3f (out_f (by assumption)) (out_f (by assumption)) (out_f (by assumption)))]))
    ·replace aK4b : _ = true := aK4b
     have aK4 := aK4b
     try simp only [qqT, qqF, qqN, qqM, qqL, qqE] at aK4
     refine VO.opX rfl rfl rfl rfl aK4b ?_
     refine VO.opX rfl rfl rfl rfl aK4b ?_
     refine VO.opX rfl rfl rfl rfl aK4b ?_
     refine VO.val rfl rfl (OpV.pickT rfl rfl rfl rfl aK4b) ?_
     refine VO.ma rfl rfl rfl rfl ?_
     refine VO.nil ?_
     refine VC.condT rfl rfl ?_
     refine VC.sr ?_
     refine VO.ma rfl rfl rfl rfl ?_
     refine VO.nil ?_
     refine VC.ret ?_
     exact Exists.intro _ (And.intro (RetN.one Tryz.results169 (ResN.v rfl)) (by rw [ordO_1 (by assumption) (by assumption) (by first | exact or3a (out_t (by assumption)) | exact or3b (out_t (by assumption)) | exact or3c (out_t (by assumption)))]))
   ·replace aK3b : _ = true := aK3b
    have aK3 := aK3b
    try simp only [qqT, qqF, qqN, qqM, qqL, qqE] at aK3
    refine VO.opX rfl rfl rfl rfl aK3b ?_
    refine VO.opX rfl rfl rfl rfl aK3b ?_
    refine VO.opX rfl rfl rfl rfl aK3b ?_
    refine VO.val rfl rfl (OpV.pickT rfl rfl rfl rfl aK3b) ?_
    refine VO.mv rfl rfl rfl rfl ?_
    refine VO.opX rfl rfl rfl rfl rfl ?_
    refine VO.opX rfl rfl rfl rfl rfl ?_
    refine VO.opX rfl rfl rfl rfl rfl ?_
    refine VO.opX rfl rfl rfl rfl rfl ?_
    refine VO.val rfl rfl (OpV.pickT rfl rfl rfl rfl rfl) ?_
    refine VO.ma rfl rfl rfl rfl ?_
    refine VO.nil ?_
    refine VC.condT rfl rfl ?_
    refine VC.sr ?_
    refine VO.ma rfl rfl rfl rfl ?_
    refine VO.nil ?_
    refine VC.ret ?_
    exact Exists.intro _ (And.intro (RetN.one Tryz.results169 (ResN.v rfl)) (by rw [ordO_1 (by assumption) (by assumption) (by first | exact or3a (out_t (by assumption)) | exact or3b (out_t (by assumption)) | exact or3c (out_t (by assumption)))]))
 ·replace aK1b : _ = true := aK1b
  have aK1 := aK1b
  try simp only [qqT, qqF, qqN, qqM, qqL, qqE] at aK1
  refine VO.opX rfl rfl rfl rfl aK1b ?_
  refine VO.opX rfl rfl rfl rfl aK1b ?_
  refine VO.opX rfl rfl rfl rfl aK1b ?_
  refine VO.val rfl rfl (OpV.pickT rfl rfl rfl rfl aK1b) ?_
  refine VO.ma rfl rfl rfl rfl ?_
  refine VO.nil ?_
  refine VC.condT rfl rfl ?_
  refine VC.sr ?_
  refine VO.ma rfl rfl rfl rfl ?_
  refine VO.nil ?_
  refine VC.ret ?_
  exact Exists.intro _ (And.intro (RetN.one Tryz.results169 (ResN.v rfl)) (by first | rw [ordO_5a (by assumption)] | rw [ordO_5b (by assumption)]))
set_option maxRecDepth 100000 in
set_option maxHeartbeats 4000000 in
theorem rf_OrdersFault {o : List OrdrS} (hs : SmOr o) :
  SpecN Tryz.prog 66 [avL o] (fun y => y = avI (ordrF o)) := by
 refine SpecN.of_VCN Tryz.func66 rfl Tryz.ntmps66 (Nle rfl) fun w A hB => ?_
 have hnew : True := trivial
 refine VC.seq ?_
 have hl := hs.len
 refine VC.region ?_
 refine VO.ma rfl rfl rfl rfl ?_
 refine VO.nil ?_
 refine VC.seq ?_
 refine VC.sr ?_
 refine VO.mv rfl rfl rfl rfl ?_
 refine VO.val rfl rfl (OpV.len_im rfl Tryz.underlying95 rfl) ?_
 refine VO.val rfl rfl (OpV.gtr rfl rfl rfl) ?_
 refine VO.nil ?_
 refine VC.cond rfl (fun aH1b => ?_) (fun aH1b => ?_)
 ·have aH1 := aH1b
  try simp only [qqT, qqF, qqN, qqM, qqL, qqE] at aH1
  refine VC.sr ?_
  refine VO.ma rfl rfl rfl rfl ?_
  refine VO.nil ?_
  refine VC.ret ?_
  exact Exists.intro _ (And.intro (RetN.one Tryz.results66 (ResN.v rfl)) (by rw [ordrF_2 (by omega)]))
 ·have aH1 := aH1b
  try simp only [qqT, qqF, qqN, qqM, qqL, qqE] at aH1
  refine VC.skip ?_
  refine VC.sr ?_
  refine VO.ma rfl rfl rfl rfl ?_
  refine VO.nil ?_
  refine VC.seq ?_
  refine VC.sr ?_
  refine VO.mv rfl rfl rfl rfl ?_
  refine VO.val rfl rfl (OpV.len_im rfl Tryz.underlying95 rfl) ?_
  refine VO.mv rfl rfl rfl rfl ?_
  refine VO.nil ?_
  refine VC.block ?_
  refine VC.loopK [(10, _), (11, _)] ⟨rfl, rfl, trivial⟩ ({q : Nat // q ≤ o.length ∧ ∀ j, j < q → ordrE o j = 0}) (fun (iZ : {q : Nat // q ≤ o.length ∧ ∀ j, j < q → ordrE o j = 0}) => match iZ with | ⟨q, hq, hn⟩ => [(3, avS (lastK OrdrS.key o q)), (12, avI (q : Int))]) (fun (iZ : {q : Nat // q ≤ o.length ∧ ∀ j, j < q → ordrE o j = 0}) => match iZ with | ⟨q, hq, hn⟩ => []) (fun (iZ : {q : Nat // q ≤ o.length ∧ ∀ j, j < q → ordrE o j = 0}) => match iZ with | ⟨q, hq, hn⟩ => 0) (fun (iZ : {q : Nat // q ≤ o.length ∧ ∀ j, j < q → ordrE o j = 0}) => match iZ with | ⟨q, hq, hn⟩ => o.length - q) ⟨0, Nat.zero_le _, fun j hj => absurd hj (Nat.not_lt_zero j)⟩ (Le.mk hB [] ⟨rfl, rfl, rfl, rfl, trivial⟩ rfl rfl (Nat.le_refl _)) ?_
  rintro ⟨q, hq, hn⟩
  show VC _ _ _ _ ⟨[(3, avS (lastK OrdrS.key o q)), (12, avI (q : Int))] ++ [(10, _), (11, _)], [], 0⟩
  refine VC.sr ?_
  refine VO.val rfl rfl (OpV.lss rfl rfl rfl) ?_
  refine VO.nil ?_
  refine VC.seq ?_
  refine VC.cond rfl (fun aH2b => ?_) (fun aH2b => ?_)
  ·have aH2 := aH2b
   try simp only [qqT, qqF, qqN, qqM, qqL, qqE] at aH2
   refine VC.skip ?_
   refine VC.seq ?_
   refine VC.block ?_
   refine VC.sr ?_
   refine VO.val rfl rfl (OpV.indexAddr_E rfl Tryz.underlying95 Tryz.sizeOf104 rfl rfl rfl (by omega)) ?_
   refine VO.val rfl rfl (OpV.loadK_at rfl hB OutW.no Tryz.isAgg104 Tryz.sizeOf104 rfl rfl) ?_
   refine VO.op rfl (OpE.alloc rfl hB rfl Tryz.zeroValue104 rfl ?_)
   intro g5
   refine VO.op rfl (OpE.store (i := 0) rfl hB rfl Tryz.sizeOf104 rfl rfl rfl rfl rfl rfl (Nle rfl) trivial ?_)
   refine VO.nil ?_
   refine VC.seq ?_
   refine VC.sr ?_
   refine VO.val rfl rfl (OpV.loadK_own (i := 0) rfl hB Tryz.isAgg104 Tryz.sizeOf104 rfl rfl rfl (fun h => h)) ?_
   refine VO.op rfl (OpE.call rfl hB rfl Tryz.call169 rfl (SpecN.spec (rf_orderFault (x := o.getD q default) (hs.key q) (hs.prod q))) ?_)
   rintro _ rfl
   refine VO.ma rfl rfl rfl rfl ?_
   refine VO.nil ?_
   refine VC.sr ?_
   refine VO.mv rfl rfl rfl rfl ?_
   refine VO.val rfl rfl (OpV.neq rfl rfl rfl) ?_
   refine VO.nil ?_
   refine VC.cond rfl (fun h2b => ?_) (fun h2b => ?_)
   ·have h2 := h2b
    try simp only [qqT, qqF, qqN, qqM, qqL, qqE] at h2
    refine VC.sr ?_
    refine VO.mv rfl rfl rfl rfl ?_
    refine VO.ma rfl rfl rfl rfl ?_
    refine VO.nil ?_
    refine VC.ret ?_
    exact Exists.intro _ (And.intro (RetN.one Tryz.results66 (ResN.v rfl)) (by rw [ordrF_at (by omega) (by omega) hn (ordrE_oe rfl h2) h2]))
   ·have h2 := h2b
    try simp only [qqT, qqF, qqN, qqM, qqL, qqE] at h2
    refine VC.skip ?_
    refine VC.seq ?_
    refine VC.sr ?_
    refine VO.val rfl rfl (OpV.fieldAddrO 0 rfl Tryz.underlying104 rfl rfl Tryz.sizeOf9 rfl) ?_
    refine VO.val rfl rfl (OpV.load_own (i := 0) rfl hB Tryz.isAgg9 rfl rfl rfl (fun h => h)) ?_
    refine VO.mv rfl rfl rfl rfl ?_
    refine VO.val rfl rfl (OpV.sleq rfl rfl rfl) ?_
    refine VO.nil ?_
    refine VC.cond rfl (fun h3b => ?_) (fun h3b => ?_)
    ·have h3 := h3b
     try simp only [qqT, qqF, qqN, qqM, qqL, qqE] at h3
     refine VC.sr ?_
     refine VO.ma rfl rfl rfl rfl ?_
     refine VO.nil ?_
     refine VC.ret ?_
     exact Exists.intro _ (And.intro (RetN.one Tryz.results66 (ResN.v rfl)) (by rw [ordrF_at (by omega) (by omega) hn (ordrE_o7 (by omega) h3) (by decide)]))
    ·have h3 := h3b
     try simp only [qqT, qqF, qqN, qqM, qqL, qqE] at h3
     refine VC.skip ?_
     refine VC.region ?_
     refine VO.val rfl rfl (OpV.fieldAddrO 0 rfl Tryz.underlying104 rfl rfl Tryz.sizeOf9 rfl) ?_
     refine VO.val rfl rfl (OpV.load_own (i := 0) rfl hB Tryz.isAgg9 rfl rfl rfl (fun h => h)) ?_
     refine VO.ma rfl rfl rfl rfl ?_
     refine VO.nil ?_
     refine VC.region ?_
     refine VO.val rfl rfl (OpV.add rfl rfl rfl (by unfold fits; omega)) ?_
     refine VO.mv rfl rfl rfl rfl ?_
     refine VO.nil ?_
     exact Exists.intro (⟨q + 1, by omega, lt_succ_cases hn ((ordrE_o0 (by omega) h3))⟩) (And.intro (Le.mk hB [] ⟨(by dsimp only; rw [lastK_succ]; rfl), rfl, rfl, rfl, trivial⟩ rfl rfl (Nat.le_refl _)) (by first | omega | (show _ < _; omega) | (simp only []; omega)))
  ·have aH2 := aH2b
   try simp only [qqT, qqF, qqN, qqM, qqL, qqE] at aH2
   refine VC.exit ?_
   refine VC.sr ?_
   refine VO.ma rfl rfl rfl rfl ?_
   refine VO.nil ?_
   refine VC.ret ?_
   exact Exists.intro _ (And.intro (RetN.one Tryz.results66 (ResN.v rfl)) (by rw [ordrF_ok (by omega) (fun j hj => hn j (by omega))]))
set_option maxRecDepth 100000 in
set_option maxHeartbeats 4000000 in
theorem rf_PacesFault {p : List PaceS} (hs : SmPc p) :
  SpecN Tryz.prog 293 [avL p] (fun y => y = avI (paceF p)) := by
 refine SpecN.of_VCN Tryz.func293 rfl Tryz.ntmps293 (Nle rfl) fun w A hB => ?_
 have hnew : True := trivial
 refine VC.seq ?_
 have hl := hs.len
 refine VC.region ?_
 refine VO.ma rfl rfl rfl rfl ?_
 refine VO.nil ?_
 refine VC.seq ?_
 refine VC.sr ?_
 refine VO.mv rfl rfl rfl rfl ?_
 refine VO.val rfl rfl (OpV.len_im rfl Tryz.underlying195 rfl) ?_
 refine VO.val rfl rfl (OpV.gtr rfl rfl rfl) ?_
 refine VO.nil ?_
 refine VC.cond rfl (fun aH1b => ?_) (fun aH1b => ?_)
 ·have aH1 := aH1b
  try simp only [qqT, qqF, qqN, qqM, qqL, qqE] at aH1
  refine VC.sr ?_
  refine VO.ma rfl rfl rfl rfl ?_
  refine VO.nil ?_
  refine VC.ret ?_
  exact Exists.intro _ (And.intro (RetN.one Tryz.results293 (ResN.v rfl)) (by rw [paceF_2 (by omega)]))
 ·have aH1 := aH1b
  try simp only [qqT, qqF, qqN, qqM, qqL, qqE] at aH1
  refine VC.skip ?_
  refine VC.sr ?_
  refine VO.ma rfl rfl rfl rfl ?_
  refine VO.nil ?_
  refine VC.seq ?_
  refine VC.sr ?_
  refine VO.mv rfl rfl rfl rfl ?_
  refine VO.val rfl rfl (OpV.len_im rfl Tryz.underlying195 rfl) ?_
  refine VO.mv rfl rfl rfl rfl ?_
  refine VO.nil ?_
  refine VC.block ?_
  refine VC.loopK [(10, _), (11, _)] ⟨rfl, rfl, trivial⟩ ({q : Nat // q ≤ p.length ∧ ∀ j, j < q → paceE p j = 0}) (fun (iZ : {q : Nat // q ≤ p.length ∧ ∀ j, j < q → paceE p j = 0}) => match iZ with | ⟨q, hq, hn⟩ => [(3, avS (lastK PaceS.product p q)), (12, avI (q : Int))]) (fun (iZ : {q : Nat // q ≤ p.length ∧ ∀ j, j < q → paceE p j = 0}) => match iZ with | ⟨q, hq, hn⟩ => []) (fun (iZ : {q : Nat // q ≤ p.length ∧ ∀ j, j < q → paceE p j = 0}) => match iZ with | ⟨q, hq, hn⟩ => 0) (fun (iZ : {q : Nat // q ≤ p.length ∧ ∀ j, j < q → paceE p j = 0}) => match iZ with | ⟨q, hq, hn⟩ => p.length - q) ⟨0, Nat.zero_le _, fun j hj => absurd hj (Nat.not_lt_zero j)⟩ (Le.mk hB [] ⟨rfl, rfl, rfl, rfl, trivial⟩ rfl rfl (Nat.le_refl _)) ?_
  rintro ⟨q, hq, hn⟩
  show VC _ _ _ _ ⟨[(3, avS (lastK PaceS.product p q)), (12, avI (q : Int))] ++ [(10, _), (11, _)], [], 0⟩
  refine VC.sr ?_
  refine VO.val rfl rfl (OpV.lss rfl rfl rfl) ?_
  refine VO.nil ?_
  refine VC.seq ?_
  refine VC.cond rfl (fun aH2b => ?_) (fun aH2b => ?_)
  ·have aH2 := aH2b
   try simp only [qqT, qqF, qqN, qqM, qqL, qqE] at aH2
   refine VC.skip ?_
   refine VC.seq ?_
   refine VC.block ?_
   refine VC.sr ?_
   refine VO.val rfl rfl (OpV.indexAddr_E rfl Tryz.underlying195 Tryz.sizeOf194 rfl rfl rfl (by omega)) ?_
   refine VO.val rfl rfl (OpV.loadK_at rfl hB OutW.no Tryz.isAgg194 Tryz.sizeOf194 rfl rfl) ?_
   refine VO.op rfl (OpE.alloc rfl hB rfl Tryz.zeroValue194 rfl ?_)
   intro g5
   refine VO.op rfl (OpE.store (i := 0) rfl hB rfl Tryz.sizeOf194 rfl rfl rfl rfl rfl rfl (Nle rfl) trivial ?_)
   refine VO.nil ?_
   refine VC.seq ?_
   refine VC.block ?_
   refine VC.sr ?_
   refine VO.val rfl rfl (OpV.fieldAddrO 0 rfl Tryz.underlying194 rfl rfl Tryz.sizeOf9 rfl) ?_
   refine VO.val rfl rfl (OpV.load_own (i := 0) rfl hB Tryz.isAgg9 rfl rfl rfl (fun h => h)) ?_
   refine VO.op rfl (OpE.call rfl hB rfl Tryz.call98 rfl (SpecN.spec (rf_Key (by have := hs.prod q; omega))) ?_)
   rintro _ rfl
   refine VO.val rfl rfl (OpV.not rfl rfl) ?_
   refine VO.ma rfl rfl rfl rfl ?_
   refine VO.nil ?_
   refine VC.cond rfl (fun k2b => ?_) (fun k2b => ?_)
   ·have k2 := k2b
    try simp only [qqT, qqF, qqN, qqM, qqL, qqE] at k2
    refine VC.sr ?_
    refine VO.ma rfl rfl rfl rfl ?_
    refine VO.nil ?_
    refine VC.ret ?_
    exact Exists.intro _ (And.intro (RetN.one Tryz.results293 (ResN.v rfl)) (by rw [paceF_at (by omega) (by omega) hn (paceE_5 k2) (by decide)]))
   ·have k2 := k2b
    try simp only [qqT, qqF, qqN, qqM, qqL, qqE] at k2
    refine VC.sr ?_
    refine VO.val rfl rfl (OpV.fieldAddrO 0 rfl Tryz.underlying194 rfl rfl Tryz.sizeOf9 rfl) ?_
    refine VO.val rfl rfl (OpV.load_own (i := 0) rfl hB Tryz.isAgg9 rfl rfl rfl (fun h => h)) ?_
    refine VO.mv rfl rfl rfl rfl ?_
    refine VO.val rfl rfl (OpV.sleq rfl rfl rfl) ?_
    refine VO.ma rfl rfl rfl rfl ?_
    refine VO.nil ?_
    refine VC.cond rfl (fun k3b => ?_) (fun k3b => ?_)
    ·have k3 := k3b
     try simp only [qqT, qqF, qqN, qqM, qqL, qqE] at k3
     refine VC.sr ?_
     refine VO.ma rfl rfl rfl rfl ?_
     refine VO.nil ?_
     refine VC.ret ?_
     exact Exists.intro _ (And.intro (RetN.one Tryz.results293 (ResN.v rfl)) (by rw [paceF_at (by omega) (by omega) hn (paceE_k7 k2 k3) (by decide)]))
    ·have k3 := k3b
     try simp only [qqT, qqF, qqN, qqM, qqL, qqE] at k3
     refine VC.sr ?_
     refine VO.val rfl rfl (OpV.fieldAddrO 1 rfl Tryz.underlying194 rfl rfl Tryz.sizeOf3 rfl) ?_
     refine VO.val rfl rfl (OpV.load_own (i := 0) rfl hB Tryz.isAgg3 rfl rfl rfl (fun h => h)) ?_
     refine VO.op rfl (OpE.call rfl hB rfl Tryz.call97 rfl (SpecN.spec (rf_in)) ?_)
     rintro _ rfl
     refine VO.val rfl rfl (OpV.not rfl rfl) ?_
     refine VO.ma rfl rfl rfl rfl ?_
     refine VO.nil ?_
     refine VC.cond rfl (fun k4b => ?_) (fun k4b => ?_)
     ·have k4 := k4b
      try simp only [qqT, qqF, qqN, qqM, qqL, qqE] at k4
      refine VC.sr ?_
      refine VO.ma rfl rfl rfl rfl ?_
      refine VO.nil ?_
      refine VC.ret ?_
      exact Exists.intro _ (And.intro (RetN.one Tryz.results293 (ResN.v rfl)) (by rw [paceF_at (by omega) (by omega) hn (paceE_1 k2 (paceE_k k2 k3) (out_t k4)) (by decide)]))
     ·have k4 := k4b
      try simp only [qqT, qqF, qqN, qqM, qqL, qqE] at k4
      refine VC.skip ?_
      refine VC.seq ?_
      refine VC.sr ?_
      refine VO.val rfl rfl (OpV.fieldAddrO 2 rfl Tryz.underlying194 rfl rfl Tryz.sizeOf110 rfl) ?_
      refine VO.val rfl rfl (OpV.load_own (i := 0) rfl hB Tryz.isAgg110 rfl rfl rfl (fun h => h)) ?_
      refine VO.op rfl (OpE.call rfl hB rfl Tryz.call337 rfl (SpecN.spec (rf_NeedsFault (by have := hs.nlen q; omega) (fun j => by have := hs.nkey q j; omega))) ?_)
      rintro _ rfl
      refine VO.ma rfl rfl rfl rfl ?_
      refine VO.nil ?_
      refine VC.sr ?_
      refine VO.mv rfl rfl rfl rfl ?_
      refine VO.val rfl rfl (OpV.neq rfl rfl rfl) ?_
      refine VO.nil ?_
      refine VC.cond rfl (fun k5b => ?_) (fun k5b => ?_)
      ·have k5 := k5b
       try simp only [qqT, qqF, qqN, qqM, qqL, qqE] at k5
       refine VC.sr ?_
       refine VO.mv rfl rfl rfl rfl ?_
       refine VO.ma rfl rfl rfl rfl ?_
       refine VO.nil ?_
       refine VC.ret ?_
       exact Exists.intro _ (And.intro (RetN.one Tryz.results293 (ResN.v rfl)) (by rw [paceF_at (by omega) (by omega) hn (paceE_n k2 (paceE_k k2 k3) (out_f k4)) k5]))
      ·have k5 := k5b
       try simp only [qqT, qqF, qqN, qqM, qqL, qqE] at k5
       refine VC.skip ?_
       refine VC.region ?_
       refine VO.val rfl rfl (OpV.fieldAddrO 0 rfl Tryz.underlying194 rfl rfl Tryz.sizeOf9 rfl) ?_
       refine VO.val rfl rfl (OpV.load_own (i := 0) rfl hB Tryz.isAgg9 rfl rfl rfl (fun h => h)) ?_
       refine VO.ma rfl rfl rfl rfl ?_
       refine VO.nil ?_
       refine VC.region ?_
       refine VO.val rfl rfl (OpV.add rfl rfl rfl (by unfold fits; omega)) ?_
       refine VO.mv rfl rfl rfl rfl ?_
       refine VO.nil ?_
       exact Exists.intro (⟨q + 1, by omega, lt_succ_cases hn ((by rw [paceE_n k2 (paceE_k k2 k3) (out_f k4)]; omega))⟩) (And.intro (Le.mk hB [] ⟨(by dsimp only; rw [lastK_succ]; rfl), rfl, rfl, rfl, trivial⟩ rfl rfl (Nat.le_refl _)) (by first | omega | (show _ < _; omega) | (simp only []; omega)))
  ·have aH2 := aH2b
   try simp only [qqT, qqF, qqN, qqM, qqL, qqE] at aH2
   refine VC.exit ?_
   refine VC.sr ?_
   refine VO.ma rfl rfl rfl rfl ?_
   refine VO.nil ?_
   refine VC.ret ?_
   exact Exists.intro _ (And.intro (RetN.one Tryz.results293 (ResN.v rfl)) (by rw [paceF_ok (by omega) (fun j hj => hn j (by omega))]))
set_option maxRecDepth 100000 in
theorem slices_IndexFunc_pace {xs : List PaceS} {F : FuncId} {cs : List AV} {p : PaceS → Bool} (hl : xs.length ≤ 1000000000) (hcall : ∀ us w, (callFunc F us).run Tryz.prog w = .ok (.enter F us) w) (hF : ∀ x, Spec Tryz.prog F ([avT x] ++ cs) (fun y => y = avB (p x))) :
  SpecN Tryz.prog 338 [avL xs, .fn F cs] (fun y => y = avI (fidx p xs)) := by
 refine SpecN.of_VCN Tryz.func338 rfl Tryz.ntmps338 (Nle rfl) fun w A hB => ?_
 have hnew : True := trivial
 refine VC.sr ?_
 refine VO.ma rfl rfl rfl rfl ?_
 refine VO.nil ?_
 refine VC.seq ?_
 refine VC.sr ?_
 refine VO.mv rfl rfl rfl rfl ?_
 refine VO.val rfl rfl (OpV.len_im rfl Tryz.underlying195 rfl) ?_
 refine VO.mv rfl rfl rfl rfl ?_
 refine VO.nil ?_
 refine VC.block ?_
 refine VC.loopK [(0, _), (1, _), (7, _)] ⟨rfl, rfl, rfl, trivial⟩ ({q : Nat // q ≤ xs.length ∧ ∀ j, j < q → p (xs.getD j default) = false}) (fun (iZ : {q : Nat // q ≤ xs.length ∧ ∀ j, j < q → p (xs.getD j default) = false}) => match iZ with | ⟨q, hq, hn⟩ => [(8, avI (q : Int))]) (fun (iZ : {q : Nat // q ≤ xs.length ∧ ∀ j, j < q → p (xs.getD j default) = false}) => match iZ with | ⟨q, hq, hn⟩ => []) (fun (iZ : {q : Nat // q ≤ xs.length ∧ ∀ j, j < q → p (xs.getD j default) = false}) => match iZ with | ⟨q, hq, hn⟩ => 0) (fun (iZ : {q : Nat // q ≤ xs.length ∧ ∀ j, j < q → p (xs.getD j default) = false}) => match iZ with | ⟨q, hq, hn⟩ => xs.length - q) ⟨0, Nat.zero_le _, fun j hj => absurd hj (Nat.not_lt_zero j)⟩ (Le.mk hB [] ⟨rfl, rfl, rfl, rfl, trivial⟩ rfl rfl (Nat.le_refl _)) ?_
 rintro ⟨q, hq, hn⟩
 show VC _ _ _ _ ⟨[(8, avI (q : Int))] ++ [(0, _), (1, _), (7, _)], [], 0⟩
 refine VC.sr ?_
 refine VO.val rfl rfl (OpV.lss rfl rfl rfl) ?_
 refine VO.nil ?_
 refine VC.seq ?_
 refine VC.cond rfl (fun aH1b => ?_) (fun aH1b => ?_)
 ·have aH1 := aH1b
  try simp only [qqT, qqF, qqN, qqM, qqL, qqE] at aH1
  refine VC.skip ?_
  refine VC.seq ?_
  refine VC.block ?_
  refine VC.sr ?_
  refine VO.mv rfl rfl rfl rfl ?_
  refine VO.ma rfl rfl rfl rfl ?_
  refine VO.nil ?_
  refine VC.sr ?_
  refine VO.mv rfl rfl rfl rfl ?_
  refine VO.mv rfl rfl rfl rfl ?_
  refine VO.mv rfl rfl rfl rfl ?_
  refine VO.val rfl rfl (OpV.indexAddr_E rfl Tryz.underlying195 Tryz.sizeOf194 rfl rfl rfl (by omega)) ?_
  refine VO.val rfl rfl (OpV.loadK_at rfl hB OutW.no Tryz.isAgg194 Tryz.sizeOf194 rfl rfl) ?_
  refine VO.op rfl (OpE.callF rfl hB rfl hcall rfl rfl (hF _) ?_)
  rintro _ rfl
  refine VO.nil ?_
  refine VC.cond rfl (fun aH2b => ?_) (fun aH2b => ?_)
  ·have aH2 := aH2b
   try simp only [qqT, qqF, qqN, qqM, qqL, qqE] at aH2
   refine VC.sr ?_
   refine VO.mv rfl rfl rfl rfl ?_
   refine VO.ma rfl rfl rfl rfl ?_
   refine VO.nil ?_
   refine VC.ret ?_
   exact Exists.intro _ (And.intro (RetN.one Tryz.results338 (ResN.v rfl)) (by first | (rw [fidx_found (d := default) (q := q) (by omega) hn (by assumption)]) | (rw [fidx_none (d := default) (fun j hj => hn j (by omega))])))
  ·have aH2 := aH2b
   try simp only [qqT, qqF, qqN, qqM, qqL, qqE] at aH2
   refine VC.skip ?_
   refine VC.region ?_
   refine VO.val rfl rfl (OpV.add rfl rfl rfl (by unfold fits; omega)) ?_
   refine VO.mv rfl rfl rfl rfl ?_
   refine VO.nil ?_
   exact Exists.intro (⟨q + 1, by omega, lt_succ_cases hn ((by assumption))⟩) (And.intro (Le.mk hB [] ⟨rfl, rfl, rfl, rfl, trivial⟩ rfl rfl (Nat.le_refl _)) (by first | omega | (show _ < _; omega) | (simp only []; omega)))
 ·have aH1 := aH1b
  try simp only [qqT, qqF, qqN, qqM, qqL, qqE] at aH1
  refine VC.exit ?_
  refine VC.sr ?_
  refine VO.ma rfl rfl rfl rfl ?_
  refine VO.nil ?_
  refine VC.ret ?_
  exact Exists.intro _ (And.intro (RetN.one Tryz.results338 (ResN.v rfl)) (by first | (rw [fidx_found (d := default) (q := q) (by omega) hn (by assumption)]) | (rw [fidx_none (d := default) (fun j hj => hn j (by omega))])))
set_option maxRecDepth 100000 in
theorem rf_PaceOf1 {x : PaceS} {k : ByteArray}  :
  SpecN Tryz.prog 339 [avT x, .at_ 1 (fun _ => avS k)] (fun y => y = avB (sEq x.product k)) := by
 refine SpecN.of_VCN Tryz.func339 rfl Tryz.ntmps339 (Nle rfl) fun w A hB => ?_
 have hnew : True := trivial
 refine VC.sr ?_
 refine VO.op rfl (OpE.box rfl hB rfl rfl rfl ?_)
 intro g2
 refine VO.ma rfl rfl rfl rfl ?_
 refine VO.nil ?_
 refine VC.sr ?_
 refine VO.val rfl rfl (OpV.fieldAddrO 0 rfl Tryz.underlying194 rfl rfl Tryz.sizeOf9 rfl) ?_
 refine VO.val rfl rfl (OpV.load_own (i := 0) rfl hB Tryz.isAgg9 rfl rfl rfl (fun h => h)) ?_
 refine VO.val rfl rfl (OpV.load_at rfl hB OutW.no Tryz.isAgg9 rfl rfl) ?_
 refine VO.val rfl rfl (OpV.seql rfl rfl rfl) ?_
 refine VO.ma rfl rfl rfl rfl ?_
 refine VO.nil ?_
 refine VC.ret ?_
 exact Exists.intro _ (And.intro (RetN.one Tryz.results339 (ResN.v rfl)) (rfl))
theorem find_fidx {α : Type} [Inhabited α] {p : α → Bool} : ∀ {l : List α}, 0 ≤ fidx p l → (l.find? p).getD default = l.getD (fidx p l).toNat default
 | [], h => by simp [fidx] at h
 | x :: r, h => by
  cases hp : p x with
  | true => simp [List.find?, fidx, hp]
  | false =>
   simp only [List.find?, hp, fidx] at h ⊢
   cases hf : fidx p r with
   | ofNat n =>
    have ih := find_fidx (p := p) (l := r) (by rw [hf]; exact Int.natCast_nonneg n)
    rw [hf] at ih
    rw [ih]
    simp
   | negSucc n => rw [hf] at h; simp at h
set_option maxRecDepth 100000 in
theorem rf_PaceOf {p : List PaceS} {k : ByteArray} (hl : p.length ≤ 1000000) :
  Spec Tryz.prog 294 [avL p, avS k] (fun y => y = .tup [avPc (paceO p k), avB (hasP p k)]) := by
 refine Spec.of_VC Tryz.func294 rfl Tryz.ntmps294 (Nle rfl) fun w A hB => ?_
 have hnew : True := trivial
 refine VC.sr ?_
 refine VO.op rfl (OpE.box rfl hB rfl rfl rfl ?_)
 intro g3
 refine VO.op rfl (OpE.alloc rfl hB rfl Tryz.zeroValue194 rfl ?_)
 intro g4
 refine VO.ma rfl rfl rfl rfl ?_
 refine VO.nil ?_
 refine VC.sr ?_
 refine VO.mv rfl rfl rfl rfl ?_
 refine VO.val rfl rfl (OpV.makeFunc1 rfl rfl) ?_
 refine VO.op rfl (OpE.callL rfl hB rfl Tryz.call338 (slices_IndexFunc_pace (p := fun x => sEq x.product k) (by omega) Tryz.call339 (fun x => rf_PaceOf1.spec)) (ArgsP.cons (ArgP.ev rfl) (ArgsP.cons (ArgP.fn1 (i := 0) (m := 1) (f := fun _ => avS k) rfl rfl (Nle rfl) (lt1 rfl)) (ArgsP.nil))) ?_)
 rintro _ rfl
 refine VO.ma rfl rfl rfl rfl ?_
 refine VO.nil ?_
 refine VC.seq ?_
 refine VC.sr ?_
 refine VO.mv rfl rfl rfl rfl ?_
 refine VO.val rfl rfl (OpV.lss rfl rfl rfl) ?_
 refine VO.nil ?_
 refine VC.cond rfl (fun h0b => ?_) (fun h0b => ?_)
 ·have h0 := h0b
  try simp only [qqT, qqF, qqN, qqM, qqL, qqE] at h0
  have hh : hasP p k = false := by unfold hasP; rw [← fidx_any]; exact decide_eq_false (by omega)
  have ho : paceO p k = default := by rw [paceO, find_none' hh]
  refine VC.sr ?_
  refine VO.val rfl rfl (OpV.build (pls := #[(0, 1), (1, 1), (2, 1)]) rfl Tryz.zeroValue194 Tryz.underlying194 (fun w => by kernel_rfl) rfl rfl) ?_
  refine VO.le _ (Le.recast (t := 12) (y := avPc default) rfl (fun w Z u h => nil_pace h)) ?_
  refine VO.op rfl (OpE.store (i := 1) rfl hB rfl Tryz.sizeOf194 rfl rfl rfl rfl rfl rfl (Nle rfl) trivial ?_)
  refine VO.ma rfl rfl rfl rfl ?_
  refine VO.nil ?_
  refine VC.ret ?_
  exact Exists.intro _ (And.intro (RetV.two Tryz.results294 ((by first | exact ResV.cellK (i := 0) Tryz.isAgg194 Tryz.sizeOf194 rfl rfl rfl | exact ResV.cellK (i := 1) Tryz.isAgg194 Tryz.sizeOf194 rfl rfl rfl)) (ResV.tmp rfl)) (by rw [hh, ho]; rfl))
 ·have h0 := h0b
  try simp only [qqT, qqF, qqN, qqM, qqL, qqE] at h0
  have hh : hasP p k = true := by unfold hasP; rw [← fidx_any]; exact decide_eq_true (by omega)
  have ho : paceO p k = p.getD (fidx (fun x => sEq x.product k) p).toNat default := find_fidx (by omega)
  have hb := (fidx_at (d := default) (p := fun x : PaceS => sEq x.product k) (xs := p) (by omega)).1
  refine VC.skip ?_
  refine VC.sr ?_
  refine VO.mv rfl rfl rfl rfl ?_
  refine VO.mv rfl rfl rfl rfl ?_
  refine VO.val rfl rfl (OpV.indexAddr_E rfl Tryz.underlying195 Tryz.sizeOf194 rfl rfl (Int.toNat_of_nonneg (by omega)).symm hb) ?_
  refine VO.val rfl rfl (OpV.loadK_at rfl hB OutW.no Tryz.isAgg194 Tryz.sizeOf194 rfl rfl) ?_
  refine VO.op rfl (OpE.store (i := 1) rfl hB rfl Tryz.sizeOf194 rfl rfl rfl rfl rfl rfl (Nle rfl) trivial ?_)
  refine VO.ma rfl rfl rfl rfl ?_
  refine VO.nil ?_
  refine VC.ret ?_
  exact Exists.intro _ (And.intro (RetV.two Tryz.results294 ((by first | exact ResV.cellK (i := 0) Tryz.isAgg194 Tryz.sizeOf194 rfl rfl rfl | exact ResV.cellK (i := 1) Tryz.isAgg194 Tryz.sizeOf194 rfl rfl rfl)) (ResV.tmp rfl)) (by rw [hh, ho]; rfl))
set_option maxRecDepth 100000 in
set_option maxHeartbeats 4000000 in
theorem rf_BothFault {p : List PaceS} {o : List OrdrS} (hp : SmPc p) (ho : SmOr o) :
  SpecN Tryz.prog 235 [avL p, avL o] (fun y => y = avI (bothF p o)) := by
 refine SpecN.of_VCN Tryz.func235 rfl Tryz.ntmps235 (Nle rfl) fun w A hB => ?_
 have hnew : True := trivial
 refine VC.seq ?_
 have hl := hp.len
 have hl2 := ho.len
 refine VC.region ?_
 refine VO.ma rfl rfl rfl rfl ?_
 refine VO.nil ?_
 refine VC.seq ?_
 refine VC.sr ?_
 refine VO.mv rfl rfl rfl rfl ?_
 refine VO.op rfl (OpE.call rfl hB rfl Tryz.call293 rfl (SpecN.spec (rf_PacesFault hp)) ?_)
 rintro _ rfl
 refine VO.ma rfl rfl rfl rfl ?_
 refine VO.nil ?_
 refine VC.sr ?_
 refine VO.mv rfl rfl rfl rfl ?_
 refine VO.val rfl rfl (OpV.neq rfl rfl rfl) ?_
 refine VO.nil ?_
 refine VC.cond rfl (fun h0b => ?_) (fun h0b => ?_)
 ·have h0 := h0b
  try simp only [qqT, qqF, qqN, qqM, qqL, qqE] at h0
  refine VC.sr ?_
  refine VO.mv rfl rfl rfl rfl ?_
  refine VO.ma rfl rfl rfl rfl ?_
  refine VO.nil ?_
  refine VC.ret ?_
  exact Exists.intro _ (And.intro (RetN.one Tryz.results235 (ResN.v rfl)) (by rw [bothF_1 h0]))
 ·have h0 := h0b
  try simp only [qqT, qqF, qqN, qqM, qqL, qqE] at h0
  refine VC.skip ?_
  refine VC.seq ?_
  refine VC.sr ?_
  refine VO.mv rfl rfl rfl rfl ?_
  refine VO.op rfl (OpE.call rfl hB rfl Tryz.call66 rfl (SpecN.spec (rf_OrdersFault ho)) ?_)
  rintro _ rfl
  refine VO.ma rfl rfl rfl rfl ?_
  refine VO.nil ?_
  refine VC.sr ?_
  refine VO.mv rfl rfl rfl rfl ?_
  refine VO.val rfl rfl (OpV.neq rfl rfl rfl) ?_
  refine VO.nil ?_
  refine VC.cond rfl (fun h1b => ?_) (fun h1b => ?_)
  ·have h1 := h1b
   try simp only [qqT, qqF, qqN, qqM, qqL, qqE] at h1
   refine VC.sr ?_
   refine VO.mv rfl rfl rfl rfl ?_
   refine VO.ma rfl rfl rfl rfl ?_
   refine VO.nil ?_
   refine VC.ret ?_
   exact Exists.intro _ (And.intro (RetN.one Tryz.results235 (ResN.v rfl)) (by rw [bothF_2 (by omega) h1]))
  ·have h1 := h1b
   try simp only [qqT, qqF, qqN, qqM, qqL, qqE] at h1
   refine VC.skip ?_
   refine VC.seq ?_
   refine VC.sr ?_
   refine VO.mv rfl rfl rfl rfl ?_
   refine VO.val rfl rfl (OpV.len_im rfl Tryz.underlying95 rfl) ?_
   refine VO.mv rfl rfl rfl rfl ?_
   refine VO.nil ?_
   refine VC.block ?_
   refine VC.loopK [(0, _), (21, _), (22, _)] ⟨rfl, rfl, rfl, trivial⟩ ({q : Nat // q ≤ o.length ∧ ∀ j, j < q → hasP p (o.getD j default).product = true}) (fun (iZ : {q : Nat // q ≤ o.length ∧ ∀ j, j < q → hasP p (o.getD j default).product = true}) => match iZ with | ⟨q, hq, hn⟩ => [(23, avI (q : Int))]) (fun (iZ : {q : Nat // q ≤ o.length ∧ ∀ j, j < q → hasP p (o.getD j default).product = true}) => match iZ with | ⟨q, hq, hn⟩ => []) (fun (iZ : {q : Nat // q ≤ o.length ∧ ∀ j, j < q → hasP p (o.getD j default).product = true}) => match iZ with | ⟨q, hq, hn⟩ => 0) (fun (iZ : {q : Nat // q ≤ o.length ∧ ∀ j, j < q → hasP p (o.getD j default).product = true}) => match iZ with | ⟨q, hq, hn⟩ => o.length - q) ⟨0, Nat.zero_le _, fun j hj => absurd hj (Nat.not_lt_zero j)⟩ (Le.mk hB [] ⟨rfl, rfl, rfl, rfl, trivial⟩ rfl rfl (Nat.le_refl _)) ?_
   rintro ⟨q, hq, hn⟩
   show VC _ _ _ _ ⟨[(23, avI (q : Int))] ++ [(0, _), (21, _), (22, _)], [], 0⟩
   refine VC.sr ?_
   refine VO.val rfl rfl (OpV.lss rfl rfl rfl) ?_
   refine VO.nil ?_
   refine VC.seq ?_
   refine VC.cond rfl (fun aH1b => ?_) (fun aH1b => ?_)
   ·have aH1 := aH1b
    try simp only [qqT, qqF, qqN, qqM, qqL, qqE] at aH1
    refine VC.skip ?_
    refine VC.seq ?_
    refine VC.block ?_
    refine VC.sr ?_
    refine VO.val rfl rfl (OpV.indexAddr_E rfl Tryz.underlying95 Tryz.sizeOf104 rfl rfl rfl (by omega)) ?_
    refine VO.val rfl rfl (OpV.loadK_at rfl hB OutW.no Tryz.isAgg104 Tryz.sizeOf104 rfl rfl) ?_
    refine VO.op rfl (OpE.alloc rfl hB rfl Tryz.zeroValue104 rfl ?_)
    intro g8
    refine VO.op rfl (OpE.store (i := 0) rfl hB rfl Tryz.sizeOf104 rfl rfl rfl rfl rfl rfl (Nle rfl) trivial ?_)
    refine VO.nil ?_
    refine VC.sr ?_
    refine VO.mv rfl rfl rfl rfl ?_
    refine VO.val rfl rfl (OpV.fieldAddrO 1 rfl Tryz.underlying104 rfl rfl Tryz.sizeOf9 rfl) ?_
    refine VO.val rfl rfl (OpV.load_own (i := 0) rfl hB Tryz.isAgg9 rfl rfl rfl (fun h => h)) ?_
    refine VO.op rfl (OpE.call rfl hB rfl Tryz.call294 rfl (rf_PaceOf (k := (o.getD q default).product) (by omega)) ?_)
    rintro _ rfl
    refine VO.mv rfl rfl rfl rfl ?_
    refine VO.val rfl rfl (OpV.extract rfl rfl rfl) ?_
    refine VO.val rfl rfl (OpV.extract rfl rfl rfl) ?_
    refine VO.op rfl (OpE.alloc rfl hB rfl Tryz.zeroValue194 rfl ?_)
    intro g9
    refine VO.op rfl (OpE.store (i := 1) rfl hB rfl Tryz.sizeOf194 rfl rfl rfl rfl rfl rfl (Nle rfl) trivial ?_)
    refine VO.ma rfl rfl rfl rfl ?_
    refine VO.nil ?_
    refine VC.sr ?_
    refine VO.mv rfl rfl rfl rfl ?_
    refine VO.val rfl rfl (OpV.not rfl rfl) ?_
    refine VO.nil ?_
    refine VC.cond rfl (fun h3b => ?_) (fun h3b => ?_)
    ·have h3 := h3b
     try simp only [qqT, qqF, qqN, qqM, qqL, qqE] at h3
     refine VC.sr ?_
     refine VO.ma rfl rfl rfl rfl ?_
     refine VO.nil ?_
     refine VC.ret ?_
     exact Exists.intro _ (And.intro (RetN.one Tryz.results235 (ResN.v rfl)) (by rw [bothF_3 (by omega) (by omega), if_neg (by rw [all_no (d := default) (q := q) (by omega) h3]; simp)]))
    ·have h3 := h3b
     try simp only [qqT, qqF, qqN, qqM, qqL, qqE] at h3
     refine VC.skip ?_
     refine VC.region ?_
     refine VO.val rfl rfl (OpV.add rfl rfl rfl (by unfold fits; omega)) ?_
     refine VO.mv rfl rfl rfl rfl ?_
     refine VO.nil ?_
     exact Exists.intro (⟨q + 1, by omega, lt_succ_cases hn (h3)⟩) (And.intro (Le.mk hB [] ⟨rfl, rfl, rfl, rfl, trivial⟩ rfl rfl (Nat.le_refl _)) (by first | omega | (show _ < _; omega) | (simp only []; omega)))
   ·have aH1 := aH1b
    try simp only [qqT, qqF, qqN, qqM, qqL, qqE] at aH1
    refine VC.exit ?_
    refine VC.sr ?_
    refine VO.ma rfl rfl rfl rfl ?_
    refine VO.nil ?_
    refine VC.ret ?_
    exact Exists.intro _ (And.intro (RetN.one Tryz.results235 (ResN.v rfl)) (by rw [bothF_3 (by omega) (by omega), if_pos (all_yes (d := default) (fun j hj => hn j (by omega)))]))

end Go.Proofs.YtdnlhdilpdeecaaGreatDoor
namespace Go.Proofs.YtdnlhdilpdeecaaGreatDoor
open Go.RowKit
set_option linter.unusedVariables false
set_option linter.unusedSimpArgs false

theorem tab_L {α : Type} [Inhabited α] [Sxc α] (xs : List α) : tab (xs.length * Sxc.k α) (fun q => Sxc.cell (xs.getD (q / Sxc.k α) default) (q % Sxc.k α)) = rowL xs := by
 have hp := Sxc.pos (α := α)
 apply List.ext_getElem?
 intro i
 by_cases hi : i < xs.length * Sxc.k α
 ·have hd : i / Sxc.k α < xs.length := (Nat.div_lt_iff_lt_mul hp).2 hi
  have := rowL_get xs (i / Sxc.k α) (i % Sxc.k α) hd (Nat.mod_lt _ hp)
  rw [Nat.div_add_mod' i (Sxc.k α)] at this
  rw [this, List.getElem?_eq_getElem (by rw [tab_len]; exact hi), tab_get]
 ·rw [List.getElem?_eq_none (by rw [tab_len]; omega), List.getElem?_eq_none (by rw [rowL_len]; omega)]
end Go.Proofs.YtdnlhdilpdeecaaGreatDoor
namespace Go.Proofs.YtdnlhdilpdeecaaGreatDoor
open Go.RowKit
set_option linter.unusedVariables false
set_option linter.unusedSimpArgs false

abbrev pt (g : Nat) : AV := .v (.pointer (some ⟨g, 0, none⟩))
abbrev ptv (g : Nat) : Value := .pointer (some ⟨g, 0, none⟩)
theorem take_succ_getD {α : Type} {xs : List α} {q : Nat} {d : α} (h : q < xs.length) : xs.take (q + 1) = xs.take q ++ [xs.getD q d] := by
 rw [List.take_succ_eq_append_getElem h]
 simp [h]
theorem getD_set_ne {α : Type} {b : List α} {i k : Nat} {x d : α} (h : i ≠ k) : (b.set i x).getD k d = b.getD k d := by
 simp only [List.getD_eq_getElem?_getD, List.getElem?_set, if_neg h]
end Go.Proofs.YtdnlhdilpdeecaaGreatDoor
namespace Go.Proofs.YtdnlhdilpdeecaaGreatDoor
open Go.RowKit
set_option linter.unusedVariables false
set_option linter.unusedSimpArgs false
theorem encO_small (n : Int) : (Utf8.encode n).size ≤ 4 := by
 unfold Utf8.encode
 simp only
 repeat' split
 all_goals simp [ByteArray.size]
theorem getSet_self {α : Type} {xs : List α} {q : Nat} {x d : α} (h : q < xs.length) : (xs.set q x).getD q d = x := by simp [h]
def ozK : ByteArray := ⟨#[111, 122]⟩
def keyO (q : Nat) : ByteArray := ⟨#[111]⟩ ++ Utf8.encode (97 + (q : Int))
theorem keyO_size (q : Nat) : (keyO q).size ≤ 1000 := by
 have := encO_small (97 + (q : Int))
 show (⟨#[111]⟩ ++ Utf8.encode (97 + (q : Int)) : ByteArray).size ≤ 1000
 rw [ByteArray.size_append]; have h1 : (⟨#[111]⟩ : ByteArray).size = 1 := rfl; omega
theorem keyO_ne {q : Nat} (h : q < 20) : keyO q ≠ ozK := by
 have : ∀ q : Fin 20, keyO q.val ≠ ozK := by decide +kernel
 exact this ⟨q, h⟩
def OOk (o : List OrdrS) : Prop := ∀ x ∈ o, x.key.size ≤ 1000 ∧ x.product.size ≤ 1000 ∧ x.key ≠ ozK
theorem OOk.snoc {l : List OrdrS} (h : OOk l) {x : OrdrS} (hx : x.key.size ≤ 1000 ∧ x.product.size ≤ 1000 ∧ x.key ≠ ozK) : OOk (l ++ [x]) := fun y hy => by
 rcases List.mem_append.1 hy with hy | hy
 ·exact h y hy
 ·simp at hy; subst hy; exact hx
theorem OOk.set {l : List OrdrS} (h : OOk l) (q : Nat) {x : OrdrS} (hx : x.key.size ≤ 1000 ∧ x.product.size ≤ 1000 ∧ x.key ≠ ozK) : OOk (l.set q x) := fun y hy => by
 rcases List.mem_or_eq_of_mem_set hy with h' | rfl
 ·exact h y h'
 ·exact hx
theorem OOk.getD {l : List OrdrS} (h : OOk l) (i : Nat) : (l.getD i default).key.size ≤ 1000 ∧ (l.getD i default).product.size ≤ 1000 ∧ (l.getD i default).key ≠ ozK := by
 rw [List.getD_eq_getElem?_getD]
 cases hi : l[i]? with
 | none => decide
 | some x => exact h x (List.mem_of_getElem? hi)
theorem OOk.sm {l : List OrdrS} (h : OOk l) (hl : l.length ≤ 1000) : SmOr l := ⟨by omega, fun i => by have := (h.getD i).1; omega, fun i => by have := (h.getD i).2.1; omega⟩
theorem or_upd {a b : OrdrS} {k : Nat} (h0 : k = 0 ∨ a.key = b.key) (h1 : k = 1 ∨ a.product = b.product) (h2 : k = 2 ∨ a.count = b.count) (h3 : k = 3 ∨ a.ready = b.ready) (h4 : k = 4 ∨ a.due = b.due) : ∀ i, i < 5 → i ≠ k → Sxc.cell a i = Sxc.cell b i := fun i hi hn => by
 match i, hi with
 | 0, _ => show avS a.key = avS b.key; rw [h0.resolve_left fun h => hn h.symm]
 | 1, _ => show avS a.product = avS b.product; rw [h1.resolve_left fun h => hn h.symm]
 | 2, _ => show avI a.count = avI b.count; rw [h2.resolve_left fun h => hn h.symm]
 | 3, _ => show avI a.ready = avI b.ready; rw [h3.resolve_left fun h => hn h.symm]
 | 4, _ => show avI a.due = avI b.due; rw [h4.resolve_left fun h => hn h.symm]
def AllQ : List AV → Prop
 | [] => True
 | x :: r => (∃ i : ByteArray, (i.size ≤ 1000 ∧ i ≠ ozK) ∧ x = avS i) ∧ AllQ r
theorem AllQ.nil : AllQ [] := trivial
theorem AllQ.cons {i : ByteArray} {r : List AV} (h : i.size ≤ 1000 ∧ i ≠ ozK) (hr : AllQ r) : AllQ (avS i :: r) := ⟨⟨i, h, rfl⟩, hr⟩
theorem AllQ.get : ∀ {l : List AV} {q : Nat}, AllQ l → q < l.length → ∃ i : ByteArray, (i.size ≤ 1000 ∧ i ≠ ozK) ∧ l.getD q .any = avS i
 | [], q, _, h => by simp at h
 | x :: r, 0, h, _ => by simpa using h.1
 | x :: r, q + 1, h, hq => by simpa using AllQ.get h.2 (by simpa using hq)
set_option maxRecDepth 100000 in
theorem some_Q {p : Nat} {L : List Int} {n : Nat} {l : List AV} (hn : l.length = n) (h0 : 0 < n) (h1 : n ≤ 1000) (hall : AllQ l) :
  SpecT Tryz.prog (TT p L) (fun b => b = p) 82 [sp p, .im n 1 fun j => l.getD j .any] 1 (fun y => ∃ r : ByteArray, (r.size ≤ 1000 ∧ r ≠ ozK) ∧ y = avS r) := by
 refine SpecT.of_VC Tryz.func82 rfl Tryz.ntmps82 (Nle rfl) (low := (fun b => b ≤ p)) (fun w A k h => h.ok) fun w A k hk hB => ?_
 have hnew : True := trivial
 refine VC.sr ?_
 refine VO.ma rfl rfl rfl rfl ?_
 refine VO.nil ?_
 refine VC.sr ?_
 refine VO.mv rfl rfl rfl rfl ?_
 refine VO.mv rfl rfl rfl rfl ?_
 refine VO.mv rfl rfl rfl rfl ?_
 refine VO.val rfl rfl (OpV.len_im rfl Tryz.underlying29 rfl) ?_
 refine VO.op rfl (OpE.callT' (k) rfl rfl hB rfl Tryz.call80 rfl ((next_T (by omega))) (by omega) ?_)
 rintro _ ⟨r9, hr9, rfl⟩
 refine VO.val rfl rfl (OpV.indexAddr_1 rfl Tryz.underlying29 Tryz.sizeOf9 rfl rfl (Int.toNat_of_nonneg (by omega)).symm (by omega)) ?_
 refine VO.val rfl rfl (OpV.load_at rfl hB OutW.no Tryz.isAgg9 rfl rfl) ?_
 refine VO.ma rfl rfl rfl rfl ?_
 refine VO.nil ?_
 refine VC.ret ?_
 exact Exists.intro _ (And.intro (RetV.one Tryz.results82 (ResV.tmp rfl)) (And.intro (hall.get (by omega)) ((show k + 1 ≤ k + 1 by omega))))
abbrev xO (l : List OrdrS) (m : Nat) : OrdrS := l.getD m default
abbrev pO (g o : Nat) : AV := .v (.pointer (some ⟨g, o, none⟩))
abbrev iO (n : Nat) (cs : List AV) : AV := .im n 1 (fun j => cs.getD j .any)
set_option maxRecDepth 100000 in
set_option maxHeartbeats 40000000 in
theorem orders_M {p : Nat} {L : List Int} {m : Nat} (hm : m ≤ 20) :
    SpecT Tryz.prog (TT p L) (fun b => b = p) 63 [sp p, avI (m : Int)] 100 (fun y => ∃ o : List OrdrS, (o.length ≤ m ∧ OOk o) ∧ y = avL o) := by
  refine SpecT.of_VC Tryz.func63 rfl Tryz.ntmps63 (Nle rfl) (low := (fun b => b ≤ p)) (fun w A k h => h.ok) fun w A k hk hB => ?_
  have hnew : True := trivial
  refine VC.sr ?_
  refine VO.ma rfl rfl rfl rfl ?_
  refine VO.nil ?_
  refine VC.sr ?_
  refine VO.ma rfl rfl rfl rfl ?_
  refine VO.nil ?_
  refine VC.seq ?_
  refine VC.sr ?_
  refine VO.mv rfl rfl rfl rfl ?_
  refine VO.mv rfl rfl rfl rfl ?_
  refine VO.op rfl (OpE.callT' (k) rfl rfl hB rfl Tryz.call10 rfl ((range_T (by omega) (by omega) (by omega))) (by omega) ?_)
  rintro _ ⟨r10, hr10, rfl⟩
  obtain ⟨N, rfl⟩ : ∃ N : Nat, r10 = N := ⟨r10.toNat, by omega⟩
  refine VO.mv rfl rfl rfl rfl ?_
  refine VO.nil ?_
  refine VC.block ?_
  refine VC.le _ (Le.nilRow 5 104) ?_
  refine VC.loopK [(0, _)] ⟨rfl, trivial⟩ ({t : Value × List OrdrS × Nat // t.2.2 ≤ N ∧ t.2.1.length = t.2.2 ∧ OOk t.2.1}) (fun (iZ : {t : Value × List OrdrS × Nat // t.2.2 ≤ N ∧ t.2.1.length = t.2.2 ∧ OOk t.2.1}) => match iZ with | ⟨⟨u, l, q⟩, hq, hl, hok⟩ => [(5, .v u), (10, avI (N : Int)), (11, avI (q : Int))]) (fun (iZ : {t : Value × List OrdrS × Nat // t.2.2 ≤ N ∧ t.2.1.length = t.2.2 ∧ OOk t.2.1}) => match iZ with | ⟨⟨u, l, q⟩, hq, hl, hok⟩ => [.row u l.length 5 (rowL l) 104]) (fun (iZ : {t : Value × List OrdrS × Nat // t.2.2 ≤ N ∧ t.2.1.length = t.2.2 ∧ OOk t.2.1}) => match iZ with | ⟨⟨u, l, q⟩, hq, hl, hok⟩ => k + 1 + 4 * q) (fun (iZ : {t : Value × List OrdrS × Nat // t.2.2 ≤ N ∧ t.2.1.length = t.2.2 ∧ OOk t.2.1}) => match iZ with | ⟨⟨u, l, q⟩, hq, hl, hok⟩ => N - q) ⟨(.slice none 0 0, [], 0), Nat.zero_le _, rfl, fun x h => by simp at h⟩ (Le.mk hB [0] ⟨rfl, rfl, rfl, rfl, trivial⟩ rfl rfl (show k + 1 ≤ k + 1 + 4 * 0 by omega)) ?_
  rintro ⟨⟨u, l, q⟩, hq, hl, hok⟩
  show VC _ _ _ _ ⟨[(5, .v u), (10, avI (N : Int)), (11, avI (q : Int))] ++ [(0, _)], [.row u l.length 5 (rowL l) 104], k + 1 + 4 * q⟩
  simp only at hq hl hok
  refine VC.sr ?_
  refine VO.val rfl rfl (OpV.lss rfl rfl rfl) ?_
  refine VO.nil ?_
  refine VC.seq ?_
  refine VC.cond rfl (fun aH1b => ?_) (fun aH1b => ?_)
  · have aH1 := aH1b
    try simp only [qqT, qqF, qqN, qqM, qqL, qqE] at aH1
    refine VC.skip ?_
    refine VC.seq ?_
    refine VC.block ?_
    refine VC.sr ?_
    refine VO.mv rfl rfl rfl rfl ?_
    refine VO.ma rfl rfl rfl rfl ?_
    refine VO.nil ?_
    refine VC.region ?_
    refine VO.mv rfl rfl rfl rfl ?_
    refine VO.mv rfl rfl rfl rfl ?_
    refine VO.val rfl rfl (OpV.add rfl rfl rfl (by unfold fits; omega)) ?_
    refine VO.val rfl rfl (OpV.conv rfl Tryz.underlying3 Tryz.underlying21 rfl (IntWalk.i32_in _ (by omega))) ?_
    refine VO.val rfl rfl (OpV.convStr rfl Tryz.underlying21 Tryz.underlying9 rfl) ?_
    refine VO.val rfl rfl (OpV.sadd rfl rfl rfl (by have := encO_small (97 + (q : Int)); have h1 : (⟨#[111]⟩ : ByteArray).size = 1 := rfl; omega)) ?_
    refine VO.mv rfl rfl rfl rfl ?_
    refine VO.op rfl (OpE.buildSlice (zc := #[.string ⟨#[]⟩, .string ⟨#[]⟩, .string ⟨#[]⟩, .string ⟨#[]⟩]) rfl hB rfl Tryz.underlying29 Tryz.sizeOf9 Tryz.zeroValue9 (by decide) (by decide) (by kernel_rfl) rfl rfl ?_)
    refine VO.op rfl (OpE.callT' (k + 1 + 4 * q) rfl rfl hB rfl Tryz.call82 rfl ((some_T 1000 (by rfl) (by decide) (by decide) (by repeat (first | exact AllS.nil | refine AllS.cons (by first | decide | omega) ?_)))) (by omega) ?_)
    rintro _ ⟨r22, hr22, rfl⟩
    refine VO.mv rfl rfl rfl rfl ?_
    refine VO.op rfl (OpE.callT' (k + 1 + 4 * q + 1) rfl rfl hB rfl Tryz.call10 rfl ((range_T (by omega) (by omega) (by omega))) (by omega) ?_)
    rintro _ ⟨r24, hr24, rfl⟩
    refine VO.mv rfl rfl rfl rfl ?_
    refine VO.op rfl (OpE.buildSlice (zc := #[.int .i64 0, .int .i64 0, .int .i64 0, .int .i64 0]) rfl hB rfl Tryz.underlying22 Tryz.sizeOf3 Tryz.zeroValue3 (by decide) (by decide) (by kernel_rfl) rfl rfl ?_)
    refine VO.op rfl (OpE.callT' (k + 1 + 4 * q + 1 + 1) rfl rfl hB rfl Tryz.call14 rfl (pick_X (by rfl) (by decide) (by decide) (by repeat (first | exact AllX.nil | refine AllX.cons ?_))) (by omega) ?_)
    rintro _ ⟨r27, rfl⟩
    refine VO.mv rfl rfl rfl rfl ?_
    refine VO.op rfl (OpE.buildSlice (zc := #[.int .i64 0, .int .i64 0, .int .i64 0, .int .i64 0, .int .i64 0]) rfl hB rfl Tryz.underlying22 Tryz.sizeOf3 Tryz.zeroValue3 (by decide) (by decide) (by kernel_rfl) rfl rfl ?_)
    refine VO.op rfl (OpE.callT' (k + 1 + 4 * q + 1 + 1 + 1) rfl rfl hB rfl Tryz.call14 rfl (pick_X (by rfl) (by decide) (by decide) (by repeat (first | exact AllX.nil | refine AllX.cons ?_))) (by omega) ?_)
    rintro _ ⟨r30, rfl⟩
    refine VO.val rfl rfl (OpV.build (pls := #[(0, 1), (1, 1), (2, 1), (3, 1), (4, 1)]) rfl Tryz.zeroValue104 Tryz.underlying104 (fun w => by kernel_rfl) rfl rfl) ?_
    refine VO.op rfl (OpE.buildSlice (zc := #[.string ⟨#[]⟩, .string ⟨#[]⟩, .int .i64 0, .int .i64 0, .int .i64 0]) rfl hB rfl Tryz.underlying95 Tryz.sizeOf104 Tryz.zeroValue104 (by decide) (by decide) (by kernel_rfl) rfl rfl ?_)
    refine VO.op rfl (OpE.append1 (i := 0) rfl hB rfl Tryz.underlying95 (infoOf Tryz.t104 5 (by kernel_rfl) rfl rfl) rfl (by decide) (by decide) rfl rfl rfl rfl (rowL_snoc l (⟨keyO q, r22, r24, r27, r30⟩ : OrdrS)) (by omega) (fun _ _ => trivial) ?_)
    intro u2
    refine VO.ma rfl rfl rfl rfl ?_
    refine VO.nil ?_
    refine VC.region ?_
    refine VO.val rfl rfl (OpV.add rfl rfl rfl (by unfold fits; omega)) ?_
    refine VO.mv rfl rfl rfl rfl ?_
    refine VO.nil ?_
    exact Exists.intro (⟨(u2, l ++ [⟨keyO q, r22, r24, r27, r30⟩], q + 1), by show q + 1 ≤ N; omega, by show (l ++ [_]).length = q + 1; simp; omega, hok.snoc ⟨keyO_size q, hr22, keyO_ne (by omega)⟩⟩) (And.intro (Le.mk hB [0] ⟨rfl, rfl, rfl, rfl, trivial⟩ rfl (by dsimp only; rw [List.length_append]; rfl) (show k + 1 + 4 * q + 1 + 1 + 1 + 1 ≤ k + 1 + 4 * (q + 1) by omega)) (by first | omega | (show _ < _; omega) | (simp only []; omega)))
  · have aH1 := aH1b
    try simp only [qqT, qqF, qqN, qqM, qqL, qqE] at aH1
    refine VC.exit ?_
    refine VC.seq ?_
    refine VC.sr ?_
    refine VO.mv rfl rfl rfl rfl ?_
    refine VO.val rfl rfl (OpV.len_row (i := 0) rfl Tryz.underlying95 rfl rfl) ?_
    refine VO.val rfl rfl (OpV.gtr rfl rfl rfl) ?_
    refine VO.mv rfl rfl rfl rfl ?_
    refine VO.opG rfl rfl rfl rfl (fun aK2b => ?_) (fun aK2b => ?_)
    · replace aK2b : _ = true := aK2b
      have aK2 := aK2b
      try simp only [qqT, qqF, qqN, qqM, qqL, qqE] at aK2
      refine OpE.val (W := NoB) (OpV.move (.inl rfl) rfl) rfl ?_
      refine VO.opY rfl rfl rfl rfl aK2b ?_
      refine OpE.callT' (k + 1 + 4 * q) rfl rfl hB rfl Tryz.call15 rfl ((flip_T (by omega))) (by omega) ?_
      rintro _ ⟨r40, rfl⟩
      refine VO.val rfl rfl (OpV.pickT rfl rfl rfl rfl aK2b) ?_
      refine VO.nil ?_
      refine VC.cond rfl (fun aH3b => ?_) (fun aH3b => ?_)
      · have aH3 := aH3b
        try simp only [qqT, qqF, qqN, qqM, qqL, qqE] at aH3
        refine VC.seq ?_
        refine VC.asBox (i := 0) rfl (by omega) (fun gr cap hu hcap hmx => ?_)
        subst hu
        refine VC.region ?_
        refine VO.mv rfl rfl rfl rfl ?_
        refine VO.mv rfl rfl rfl rfl ?_
        refine VO.mv rfl rfl rfl rfl ?_
        refine VO.val rfl rfl (OpV.len_v rfl Tryz.underlying95 rfl) ?_
        refine VO.op rfl (OpE.callT' (k + 1 + 4 * q + 1) rfl rfl hB rfl Tryz.call80 rfl ((next_T (by omega))) (by omega) ?_)
        rintro _ ⟨r46, hr46, rfl⟩
        obtain ⟨i, rfl⟩ : ∃ i : Nat, r46 = i := ⟨r46.toNat, by omega⟩
        refine VO.val rfl rfl (OpV.indexAddr_q rfl Tryz.underlying95 Tryz.sizeOf104 rfl rfl rfl (by omega)) ?_
        refine VO.ma rfl rfl rfl rfl ?_
        refine VO.nil ?_
        refine VC.draw (fun j b => j ∈ [54, 57, 60, 63, 66] ∧ b = gr) hB (by kernel_rfl) ?_
        refine VA.take (i := 0) rfl (by decide +kernel) (by decide +kernel) (by decide +kernel) rfl rfl (OpV.move (.inl rfl) rfl) ?_
        refine VA.take (i := 1) rfl (by decide +kernel) (by decide +kernel) (by decide +kernel) rfl rfl (OpV.move (.inl rfl) rfl) ?_
        refine VA.take (i := 2) rfl (by decide +kernel) (by decide +kernel) (by decide +kernel) rfl rfl (OpV.move (.inl rfl) rfl) ?_
        refine VA.take (i := 3) rfl (by decide +kernel) (by decide +kernel) (by decide +kernel) rfl rfl (OpV.move (.inl rfl) rfl) ?_
        refine VA.take (i := 4) rfl (by decide +kernel) (by decide +kernel) (by decide +kernel) rfl rfl (OpV.move (.inl rfl) rfl) ?_
        refine VA.take (i := 5) rfl (by decide +kernel) (by decide +kernel) (by decide +kernel) rfl rfl (OpV.move (.inl rfl) rfl) ?_
        refine VA.take (i := 6) rfl (by decide +kernel) (by decide +kernel) (by decide +kernel) rfl rfl (OpV.move (.inl rfl) rfl) ?_
        refine VA.take (i := 7) rfl (by decide +kernel) (by decide +kernel) (by decide +kernel) rfl rfl (OpV.nilCheck rfl rfl) ?_
        refine VA.take (i := 8) rfl (by decide +kernel) (by decide +kernel) (by decide +kernel) rfl rfl (OpV.fieldAddrO 0 rfl Tryz.underlying104 rfl rfl Tryz.sizeOf9 rfl) ?_
        refine VA.take (i := 9) rfl (by decide +kernel) (by decide +kernel) (by decide +kernel) rfl rfl (OpV.load_own (i := 0) rfl hB Tryz.isAgg9 rfl rfl (rowL_at rfl (by omega) (by decide)) (Wi.notD (by decide +kernel))) ?_
        refine VA.take (i := 10) rfl (by decide +kernel) (by decide +kernel) (by decide +kernel) rfl rfl (OpV.move (.inl rfl) rfl) ?_
        refine VA.take (i := 11) rfl (by decide +kernel) (by decide +kernel) (by decide +kernel) rfl rfl (OpV.nilCheck rfl rfl) ?_
        refine VA.take (i := 12) rfl (by decide +kernel) (by decide +kernel) (by decide +kernel) rfl rfl (OpV.fieldAddrO 0 rfl Tryz.underlying104 rfl rfl Tryz.sizeOf9 rfl) ?_
        refine VA.take (i := 13) rfl (by decide +kernel) (by decide +kernel) (by decide +kernel) rfl rfl (OpV.load_own (i := 0) rfl hB Tryz.isAgg9 rfl rfl (rowL_at rfl (by omega) (by decide)) (Wi.notD (by decide +kernel))) ?_
        refine VA.take (i := 16) rfl (by decide +kernel) (by decide +kernel) (by decide +kernel) rfl rfl (OpV.move (.inl rfl) rfl) ?_
        refine VA.take (i := 17) rfl (by decide +kernel) (by decide +kernel) (by decide +kernel) rfl rfl (OpV.move (.inl rfl) rfl) ?_
        refine VA.take (i := 18) rfl (by decide +kernel) (by decide +kernel) (by decide +kernel) rfl rfl (OpV.nilCheck rfl rfl) ?_
        refine VA.take (i := 19) rfl (by decide +kernel) (by decide +kernel) (by decide +kernel) rfl rfl (OpV.fieldAddrO 1 rfl Tryz.underlying104 rfl rfl Tryz.sizeOf9 rfl) ?_
        refine VA.take (i := 20) rfl (by decide +kernel) (by decide +kernel) (by decide +kernel) rfl rfl (OpV.load_own (i := 0) rfl hB Tryz.isAgg9 rfl rfl (rowL_at rfl (by omega) (by decide)) (Wi.notD (by decide +kernel))) ?_
        refine VA.take (i := 21) rfl (by decide +kernel) (by decide +kernel) (by decide +kernel) rfl rfl (OpV.move (.inl rfl) rfl) ?_
        refine VA.take (i := 22) rfl (by decide +kernel) (by decide +kernel) (by decide +kernel) rfl rfl (OpV.nilCheck rfl rfl) ?_
        refine VA.take (i := 23) rfl (by decide +kernel) (by decide +kernel) (by decide +kernel) rfl rfl (OpV.fieldAddrO 1 rfl Tryz.underlying104 rfl rfl Tryz.sizeOf9 rfl) ?_
        refine VA.take (i := 24) rfl (by decide +kernel) (by decide +kernel) (by decide +kernel) rfl rfl (OpV.load_own (i := 0) rfl hB Tryz.isAgg9 rfl rfl (rowL_at rfl (by omega) (by decide)) (Wi.notD (by decide +kernel))) ?_
        refine VA.take (i := 27) rfl (by decide +kernel) (by decide +kernel) (by decide +kernel) rfl rfl (OpV.move (.inl rfl) rfl) ?_
        refine VA.take (i := 28) rfl (by decide +kernel) (by decide +kernel) (by decide +kernel) rfl rfl (OpV.move (.inl rfl) rfl) ?_
        refine VA.take (i := 29) rfl (by decide +kernel) (by decide +kernel) (by decide +kernel) rfl rfl (OpV.nilCheck rfl rfl) ?_
        refine VA.take (i := 30) rfl (by decide +kernel) (by decide +kernel) (by decide +kernel) rfl rfl (OpV.fieldAddrO 2 rfl Tryz.underlying104 rfl rfl Tryz.sizeOf3 rfl) ?_
        refine VA.take (i := 31) rfl (by decide +kernel) (by decide +kernel) (by decide +kernel) rfl rfl (OpV.load_own (i := 0) rfl hB Tryz.isAgg3 rfl rfl (rowL_at rfl (by omega) (by decide)) (Wi.notD (by decide +kernel))) ?_
        refine VA.take (i := 34) rfl (by decide +kernel) (by decide +kernel) (by decide +kernel) rfl rfl (OpV.move (.inl rfl) rfl) ?_
        refine VA.take (i := 35) rfl (by decide +kernel) (by decide +kernel) (by decide +kernel) rfl rfl (OpV.move (.inl rfl) rfl) ?_
        refine VA.take (i := 36) rfl (by decide +kernel) (by decide +kernel) (by decide +kernel) rfl rfl (OpV.nilCheck rfl rfl) ?_
        refine VA.take (i := 37) rfl (by decide +kernel) (by decide +kernel) (by decide +kernel) rfl rfl (OpV.fieldAddrO 3 rfl Tryz.underlying104 rfl rfl Tryz.sizeOf3 rfl) ?_
        refine VA.take (i := 38) rfl (by decide +kernel) (by decide +kernel) (by decide +kernel) rfl rfl (OpV.load_own (i := 0) rfl hB Tryz.isAgg3 rfl rfl (rowL_at rfl (by omega) (by decide)) (Wi.notD (by decide +kernel))) ?_
        refine VA.take (i := 41) rfl (by decide +kernel) (by decide +kernel) (by decide +kernel) rfl rfl (OpV.move (.inl rfl) rfl) ?_
        refine VA.take (i := 42) rfl (by decide +kernel) (by decide +kernel) (by decide +kernel) rfl rfl (OpV.move (.inl rfl) rfl) ?_
        refine VA.take (i := 43) rfl (by decide +kernel) (by decide +kernel) (by decide +kernel) rfl rfl (OpV.nilCheck rfl rfl) ?_
        refine VA.take (i := 44) rfl (by decide +kernel) (by decide +kernel) (by decide +kernel) rfl rfl (OpV.fieldAddrO 4 rfl Tryz.underlying104 rfl rfl Tryz.sizeOf3 rfl) ?_
        refine VA.take (i := 45) rfl (by decide +kernel) (by decide +kernel) (by decide +kernel) rfl rfl (OpV.load_own (i := 0) rfl hB Tryz.isAgg3 rfl rfl (rowL_at rfl (by omega) (by decide)) (Wi.notD (by decide +kernel))) ?_
        refine VA.take (i := 46) rfl (by decide +kernel) (by decide +kernel) (by decide +kernel) rfl rfl (OpV.move (.inl rfl) rfl) ?_
        refine VA.take (i := 47) rfl (by decide +kernel) (by decide +kernel) (by decide +kernel) rfl rfl (OpV.nilCheck rfl rfl) ?_
        refine VA.take (i := 48) rfl (by decide +kernel) (by decide +kernel) (by decide +kernel) rfl rfl (OpV.fieldAddrO 4 rfl Tryz.underlying104 rfl rfl Tryz.sizeOf3 rfl) ?_
        refine VA.take (i := 49) rfl (by decide +kernel) (by decide +kernel) (by decide +kernel) rfl rfl (OpV.load_own (i := 0) rfl hB Tryz.isAgg3 rfl rfl (rowL_at rfl (by omega) (by decide)) (Wi.notD (by decide +kernel))) ?_
        refine VA.bind (fun F hF => ?_)
        have hS0 : ∀ (r63 : ByteArray) (hr63 : r63.size ≤ 1000 ∧ r63 ≠ ozK) (r74 : ByteArray) (hr74 : r74.size ≤ 1000) (r81 : Int) (r88 : Int) (r99 : Int), F 13 (lstB 67 [0, 1, 2, 3, 4, 5, 6, 7, 8, 9, 10, 11, 12, 13, 14, 15, 16, 17, 18, 19, 20, 21, 22, 23, 24, 25, 26, 27, 28, 29, 30, 31, 32, 33, 34, 35, 36, 37, 38, 39, 40, 41, 42, 43, 44, 45, 46, 47, 48, 49, 50, 51, 52, 53]) ⟨[(0, sp p), (53, sp p), (64, sp p), (75, sp p), (82, sp p), (89, sp p), (48, (pO gr (0 + i * 5))), (49, (pO gr (0 + i * 5))), (50, (pO gr (0 + i * 5))), (51, (pO gr (0 + i * 5))), (52, (pO gr (0 + i * 5))), (57, avS (xO l i).key), (61, avS (xO l i).key), (68, avS (xO l i).product), (72, avS (xO l i).product), (79, avI (xO l i).count), (86, avI (xO l i).ready), (93, avI (xO l i).due), (97, avI (xO l i).due), (5, .v (.slice (some ⟨gr, 0, none⟩) l.length cap)), (62, (iO 4 [avS (xO l i).key, avS (xO l i).key, avS ⟨#[]⟩, avS ⟨#[111, 97]⟩])), (63, avS r63), (73, (iO 4 [avS (xO l i).product, avS (xO l i).product, avS ⟨#[122, 122]⟩, avS ⟨#[]⟩])), (74, avS r74), (80, (iO 3 [avI (xO l i).count, avI 0, avI 100001])), (81, avI r81), (87, (iO 3 [avI (xO l i).ready, avI (-1), avI 345686400000])), (88, avI r88), (98, (iO 3 [avI (xO l i).due, avI (xO l i).due, avI 345686400000])), (99, avI r99), (101, (pO gr (0 + i * 5 + 0)))], [.box gr ⟨rowL l, 104, cap * 5⟩], k + 1 + 4 * q + 1 + 1 + 1 + 1 + 1 + 1 + 1⟩ := by
          intro r63 hr63 r74 hr74 r81 r88 r99
          rw [hF]
          refine VA.all (rs := [54]) (by decide +kernel) (by decide) ?_
          refine ⟨⟨_, rfl, .inl rfl, ?_⟩, trivial⟩
          refine OpE.store1 (i := 0) rfl hB rfl Tryz.sizeOf9 rfl rfl rfl rfl rfl rfl (rowL_in rfl (by omega) (by decide)) (rowL_set (x := ({l.getD i default with key := r63} : OrdrS)) rfl (by omega) (by decide) rfl (fun i hi hn => or_upd (by simp) (by simp) (by simp) (by simp) (by simp) i hi hn)) (by first | exact ⟨rfl, rfl⟩ | exact .inl ⟨rfl, rfl⟩ | exact .inr ⟨rfl, rfl⟩ | exact ⟨rfl, trivial⟩ | exact .inl ⟨rfl, trivial⟩ | exact .inr ⟨rfl, trivial⟩ | exact ⟨by decide, rfl⟩) ?_
          refine VA.take (i := 55) rfl (by decide +kernel) (by decide +kernel) (by decide +kernel) rfl rfl (OpV.nilCheck rfl rfl) ?_
          refine VA.take (i := 56) rfl (by decide +kernel) (by decide +kernel) (by decide +kernel) rfl rfl (OpV.fieldAddrO 1 rfl Tryz.underlying104 rfl rfl Tryz.sizeOf9 rfl) ?_
          refine VA.all (rs := [57]) (by decide +kernel) (by decide) ?_
          refine ⟨⟨_, rfl, .inl rfl, ?_⟩, trivial⟩
          refine OpE.store1 (i := 0) rfl hB rfl Tryz.sizeOf9 rfl rfl rfl rfl rfl rfl (rowL_in rfl (by first | omega | (simp only [List.length_set]; omega) | (simp; omega)) (by decide)) (rowL_set (x := ({l.getD i default with key := r63, product := r74} : OrdrS)) rfl (by first | omega | (simp only [List.length_set]; omega) | (simp; omega)) (by decide) rfl (fun i hi hn => by rw [getSet_self (by first | omega | (simp only [List.length_set]; omega) | (simp; omega))]; exact or_upd (by simp) (by simp) (by simp) (by simp) (by simp) i hi hn)) (by first | exact ⟨rfl, rfl⟩ | exact .inl ⟨rfl, rfl⟩ | exact .inr ⟨rfl, rfl⟩ | exact ⟨rfl, trivial⟩ | exact .inl ⟨rfl, trivial⟩ | exact .inr ⟨rfl, trivial⟩ | exact ⟨by decide, rfl⟩) ?_
          refine VA.take (i := 58) rfl (by decide +kernel) (by decide +kernel) (by decide +kernel) rfl rfl (OpV.nilCheck rfl rfl) ?_
          refine VA.take (i := 59) rfl (by decide +kernel) (by decide +kernel) (by decide +kernel) rfl rfl (OpV.fieldAddrO 2 rfl Tryz.underlying104 rfl rfl Tryz.sizeOf3 rfl) ?_
          refine VA.all (rs := [60]) (by decide +kernel) (by decide) ?_
          refine ⟨⟨_, rfl, .inl rfl, ?_⟩, trivial⟩
          refine OpE.store1 (i := 0) rfl hB rfl Tryz.sizeOf3 rfl rfl rfl rfl rfl rfl (rowL_in rfl (by first | omega | (simp only [List.length_set]; omega) | (simp; omega)) (by decide)) (rowL_set (x := ({l.getD i default with key := r63, product := r74, count := r81} : OrdrS)) rfl (by first | omega | (simp only [List.length_set]; omega) | (simp; omega)) (by decide) rfl (fun i hi hn => by rw [getSet_self (by first | omega | (simp only [List.length_set]; omega) | (simp; omega))]; exact or_upd (by simp) (by simp) (by simp) (by simp) (by simp) i hi hn)) (by first | exact ⟨rfl, rfl⟩ | exact .inl ⟨rfl, rfl⟩ | exact .inr ⟨rfl, rfl⟩ | exact ⟨rfl, trivial⟩ | exact .inl ⟨rfl, trivial⟩ | exact .inr ⟨rfl, trivial⟩ | exact ⟨by decide, rfl⟩) ?_
          refine VA.take (i := 61) rfl (by decide +kernel) (by decide +kernel) (by decide +kernel) rfl rfl (OpV.nilCheck rfl rfl) ?_
          refine VA.take (i := 62) rfl (by decide +kernel) (by decide +kernel) (by decide +kernel) rfl rfl (OpV.fieldAddrO 3 rfl Tryz.underlying104 rfl rfl Tryz.sizeOf3 rfl) ?_
          refine VA.all (rs := [63]) (by decide +kernel) (by decide) ?_
          refine ⟨⟨_, rfl, .inl rfl, ?_⟩, trivial⟩
          refine OpE.store1 (i := 0) rfl hB rfl Tryz.sizeOf3 rfl rfl rfl rfl rfl rfl (rowL_in rfl (by first | omega | (simp only [List.length_set]; omega) | (simp; omega)) (by decide)) (rowL_set (x := ({l.getD i default with key := r63, product := r74, count := r81, ready := r88} : OrdrS)) rfl (by first | omega | (simp only [List.length_set]; omega) | (simp; omega)) (by decide) rfl (fun i hi hn => by rw [getSet_self (by first | omega | (simp only [List.length_set]; omega) | (simp; omega))]; exact or_upd (by simp) (by simp) (by simp) (by simp) (by simp) i hi hn)) (by first | exact ⟨rfl, rfl⟩ | exact .inl ⟨rfl, rfl⟩ | exact .inr ⟨rfl, rfl⟩ | exact ⟨rfl, trivial⟩ | exact .inl ⟨rfl, trivial⟩ | exact .inr ⟨rfl, trivial⟩ | exact ⟨by decide, rfl⟩) ?_
          refine VA.take (i := 64) rfl (by decide +kernel) (by decide +kernel) (by decide +kernel) rfl rfl (OpV.nilCheck rfl rfl) ?_
          refine VA.take (i := 65) rfl (by decide +kernel) (by decide +kernel) (by decide +kernel) rfl rfl (OpV.fieldAddrO 4 rfl Tryz.underlying104 rfl rfl Tryz.sizeOf3 rfl) ?_
          refine VA.all (rs := [66]) (by decide +kernel) (by decide) ?_
          refine ⟨⟨_, rfl, .inl rfl, ?_⟩, trivial⟩
          refine OpE.store1 (i := 0) rfl hB rfl Tryz.sizeOf3 rfl rfl rfl rfl rfl rfl (rowL_in rfl (by first | omega | (simp only [List.length_set]; omega) | (simp; omega)) (by decide)) (rowL_set (x := ({l.getD i default with key := r63, product := r74, count := r81, ready := r88, due := r99} : OrdrS)) rfl (by first | omega | (simp only [List.length_set]; omega) | (simp; omega)) (by decide) rfl (fun i hi hn => by rw [getSet_self (by first | omega | (simp only [List.length_set]; omega) | (simp; omega))]; exact or_upd (by simp) (by simp) (by simp) (by simp) (by simp) i hi hn)) (by first | exact ⟨rfl, rfl⟩ | exact .inl ⟨rfl, rfl⟩ | exact .inr ⟨rfl, rfl⟩ | exact ⟨rfl, trivial⟩ | exact .inl ⟨rfl, trivial⟩ | exact .inr ⟨rfl, trivial⟩ | exact ⟨by decide, rfl⟩) ?_
          refine VA.done (by decide +kernel) ?_
          refine VC.sr ?_
          refine VO.mv rfl rfl rfl rfl ?_
          refine VO.ma rfl rfl rfl rfl ?_
          refine VO.nil ?_
          refine VC.le _ (Le.boxT (t := 4) (i := 0) (n := l.length) hB hnew rfl rfl (by simp) hcap hmx) ?_
          refine VC.ret ?_
          exact Exists.intro _ (And.intro (RetV.one Tryz.results63 (ResV.tmp rfl)) (And.intro (by first | exact ⟨l, ⟨by omega, hok⟩, rfl⟩ | exact ⟨_, ⟨by simp; omega, by repeat (first | exact hok | refine OOk.set ?_ _ ⟨by first | exact hr63.1 | exact (hok.getD i).1, by first | exact hr74 | exact (hok.getD i).2.1, by first | exact hr63.2 | exact (hok.getD i).2.2⟩)⟩, rfl⟩) ((show k + 1 + 4 * q + 1 + 1 + 1 + 1 + 1 + 1 + 1 ≤ k + 100 by omega))))
        have hS1 : ∀ (r63 : ByteArray) (hr63 : r63.size ≤ 1000 ∧ r63 ≠ ozK) (r74 : ByteArray) (hr74 : r74.size ≤ 1000) (r81 : Int) (r88 : Int), F 16 (lstB 67 [0, 1, 2, 3, 4, 5, 6, 7, 8, 9, 10, 11, 12, 13, 14, 15, 16, 17, 18, 19, 20, 21, 22, 23, 24, 25, 26, 27, 28, 29, 30, 31, 32, 33, 34, 35, 36, 37, 38, 39, 40, 41, 42, 43, 44, 45, 46, 47, 48, 49, 50]) ⟨[(0, sp p), (53, sp p), (64, sp p), (75, sp p), (82, sp p), (89, sp p), (48, (pO gr (0 + i * 5))), (49, (pO gr (0 + i * 5))), (50, (pO gr (0 + i * 5))), (51, (pO gr (0 + i * 5))), (52, (pO gr (0 + i * 5))), (57, avS (xO l i).key), (61, avS (xO l i).key), (68, avS (xO l i).product), (72, avS (xO l i).product), (79, avI (xO l i).count), (86, avI (xO l i).ready), (93, avI (xO l i).due), (97, avI (xO l i).due), (5, .v (.slice (some ⟨gr, 0, none⟩) l.length cap)), (62, (iO 4 [avS (xO l i).key, avS (xO l i).key, avS ⟨#[]⟩, avS ⟨#[111, 97]⟩])), (63, avS r63), (73, (iO 4 [avS (xO l i).product, avS (xO l i).product, avS ⟨#[122, 122]⟩, avS ⟨#[]⟩])), (74, avS r74), (80, (iO 3 [avI (xO l i).count, avI 0, avI 100001])), (81, avI r81), (87, (iO 3 [avI (xO l i).ready, avI (-1), avI 345686400000])), (88, avI r88), (98, (iO 3 [avI (xO l i).due, avI (xO l i).due, avI 345686400000]))], [.box gr ⟨rowL l, 104, cap * 5⟩], k + 1 + 4 * q + 1 + 1 + 1 + 1 + 1 + 1⟩ := by
          intro r63 hr63 r74 hr74 r81 r88
          rw [hF]
          refine VA.all (rs := [51]) (by decide +kernel) (by decide) ?_
          refine ⟨⟨_, rfl, .inl rfl, ?_⟩, trivial⟩
          refine OpE.callT' (k + 1 + 4 * q + 1 + 1 + 1 + 1 + 1 + 1) rfl rfl hB rfl Tryz.call14 rfl (pick_X (by rfl) (by decide) (by decide) (by repeat (first | exact AllX.nil | refine AllX.cons ?_))) (by omega) ?_
          rintro _ ⟨r99, rfl⟩
          refine VA.take (i := 52) rfl (by decide +kernel) (by decide +kernel) (by decide +kernel) rfl rfl (OpV.nilCheck rfl rfl) ?_
          refine VA.take (i := 53) rfl (by decide +kernel) (by decide +kernel) (by decide +kernel) rfl rfl (OpV.fieldAddrO 0 rfl Tryz.underlying104 rfl rfl Tryz.sizeOf9 rfl) ?_
          have hh := hS0 r63 hr63 r74 hr74 r81 r88 r99
          rw [hF] at hh
          exact VA.to hh (by decide +kernel) (Le.mk hB [0] ⟨rfl, rfl, rfl, rfl, rfl, rfl, rfl, rfl, rfl, rfl, rfl, rfl, rfl, rfl, rfl, rfl, rfl, rfl, rfl, rfl, rfl, rfl, rfl, rfl, rfl, rfl, rfl, rfl, rfl, rfl, rfl, trivial⟩ rfl rfl (Nat.le_refl _))
        have hS2 : ∀ (r63 : ByteArray) (hr63 : r63.size ≤ 1000 ∧ r63 ≠ ozK) (r74 : ByteArray) (hr74 : r74.size ≤ 1000) (r81 : Int) (r88 : Int), F 17 (lstB 67 [0, 1, 2, 3, 4, 5, 6, 7, 8, 9, 10, 11, 12, 13, 14, 15, 16, 17, 18, 19, 20, 21, 22, 23, 24, 25, 26, 27, 28, 29, 30, 31, 32, 33, 34, 35, 36, 37, 38, 39, 40, 41, 42, 43, 44, 45, 46, 47, 48, 49]) ⟨[(0, sp p), (53, sp p), (64, sp p), (75, sp p), (82, sp p), (89, sp p), (48, (pO gr (0 + i * 5))), (49, (pO gr (0 + i * 5))), (50, (pO gr (0 + i * 5))), (51, (pO gr (0 + i * 5))), (52, (pO gr (0 + i * 5))), (57, avS (xO l i).key), (61, avS (xO l i).key), (68, avS (xO l i).product), (72, avS (xO l i).product), (79, avI (xO l i).count), (86, avI (xO l i).ready), (93, avI (xO l i).due), (97, avI (xO l i).due), (5, .v (.slice (some ⟨gr, 0, none⟩) l.length cap)), (62, (iO 4 [avS (xO l i).key, avS (xO l i).key, avS ⟨#[]⟩, avS ⟨#[111, 97]⟩])), (63, avS r63), (73, (iO 4 [avS (xO l i).product, avS (xO l i).product, avS ⟨#[122, 122]⟩, avS ⟨#[]⟩])), (74, avS r74), (80, (iO 3 [avI (xO l i).count, avI 0, avI 100001])), (81, avI r81), (87, (iO 3 [avI (xO l i).ready, avI (-1), avI 345686400000])), (88, avI r88)], [.box gr ⟨rowL l, 104, cap * 5⟩], k + 1 + 4 * q + 1 + 1 + 1 + 1 + 1 + 1⟩ := by
          intro r63 hr63 r74 hr74 r81 r88
          rw [hF]
          refine VA.all (rs := [50]) (by decide +kernel) (by decide) ?_
          refine ⟨⟨_, rfl, .inl rfl, ?_⟩, trivial⟩
          refine OpE.buildSlice (zc := #[.int .i64 0, .int .i64 0, .int .i64 0]) rfl hB rfl Tryz.underlying22 Tryz.sizeOf3 Tryz.zeroValue3 (by decide) (by decide) (by kernel_rfl) rfl rfl ?_
          have hh := hS1 r63 hr63 r74 hr74 r81 r88
          rw [hF] at hh
          exact VA.to hh (by decide +kernel) (Le.mk hB [0] ⟨rfl, rfl, rfl, rfl, rfl, rfl, rfl, rfl, rfl, rfl, rfl, rfl, rfl, rfl, rfl, rfl, rfl, rfl, rfl, rfl, rfl, rfl, rfl, rfl, rfl, rfl, rfl, rfl, rfl, trivial⟩ rfl rfl (Nat.le_refl _))
        have hS3 : ∀ (r63 : ByteArray) (hr63 : r63.size ≤ 1000 ∧ r63 ≠ ozK) (r74 : ByteArray) (hr74 : r74.size ≤ 1000) (r81 : Int), F 17 (lstB 67 [0, 1, 2, 3, 4, 5, 6, 7, 8, 9, 10, 11, 12, 13, 14, 15, 16, 17, 18, 19, 20, 21, 22, 23, 24, 25, 26, 27, 28, 29, 30, 31, 32, 33, 34, 35, 36, 37, 38, 39, 41, 42, 43, 44, 45, 46, 47, 48, 49, 50]) ⟨[(0, sp p), (53, sp p), (64, sp p), (75, sp p), (82, sp p), (89, sp p), (48, (pO gr (0 + i * 5))), (49, (pO gr (0 + i * 5))), (50, (pO gr (0 + i * 5))), (51, (pO gr (0 + i * 5))), (52, (pO gr (0 + i * 5))), (57, avS (xO l i).key), (61, avS (xO l i).key), (68, avS (xO l i).product), (72, avS (xO l i).product), (79, avI (xO l i).count), (86, avI (xO l i).ready), (93, avI (xO l i).due), (97, avI (xO l i).due), (5, .v (.slice (some ⟨gr, 0, none⟩) l.length cap)), (62, (iO 4 [avS (xO l i).key, avS (xO l i).key, avS ⟨#[]⟩, avS ⟨#[111, 97]⟩])), (63, avS r63), (73, (iO 4 [avS (xO l i).product, avS (xO l i).product, avS ⟨#[122, 122]⟩, avS ⟨#[]⟩])), (74, avS r74), (80, (iO 3 [avI (xO l i).count, avI 0, avI 100001])), (81, avI r81), (87, (iO 3 [avI (xO l i).ready, avI (-1), avI 345686400000])), (98, (iO 3 [avI (xO l i).due, avI (xO l i).due, avI 345686400000]))], [.box gr ⟨rowL l, 104, cap * 5⟩], k + 1 + 4 * q + 1 + 1 + 1 + 1 + 1⟩ := by
          intro r63 hr63 r74 hr74 r81
          rw [hF]
          refine VA.all (rs := [40]) (by decide +kernel) (by decide) ?_
          refine ⟨⟨_, rfl, .inl rfl, ?_⟩, trivial⟩
          refine OpE.callT' (k + 1 + 4 * q + 1 + 1 + 1 + 1 + 1) rfl rfl hB rfl Tryz.call14 rfl (pick_X (by rfl) (by decide) (by decide) (by repeat (first | exact AllX.nil | refine AllX.cons ?_))) (by omega) ?_
          rintro _ ⟨r88, rfl⟩
          have hh := hS1 r63 hr63 r74 hr74 r81 r88
          rw [hF] at hh
          exact VA.to hh (by decide +kernel) (Le.mk hB [0] ⟨rfl, rfl, rfl, rfl, rfl, rfl, rfl, rfl, rfl, rfl, rfl, rfl, rfl, rfl, rfl, rfl, rfl, rfl, rfl, rfl, rfl, rfl, rfl, rfl, rfl, rfl, rfl, rfl, rfl, trivial⟩ rfl rfl (Nat.le_refl _))
        have hS4 : ∀ (r63 : ByteArray) (hr63 : r63.size ≤ 1000 ∧ r63 ≠ ozK) (r74 : ByteArray) (hr74 : r74.size ≤ 1000) (r81 : Int), F 18 (lstB 67 [0, 1, 2, 3, 4, 5, 6, 7, 8, 9, 10, 11, 12, 13, 14, 15, 16, 17, 18, 19, 20, 21, 22, 23, 24, 25, 26, 27, 28, 29, 30, 31, 32, 33, 34, 35, 36, 37, 38, 39, 41, 42, 43, 44, 45, 46, 47, 48, 49]) ⟨[(0, sp p), (53, sp p), (64, sp p), (75, sp p), (82, sp p), (89, sp p), (48, (pO gr (0 + i * 5))), (49, (pO gr (0 + i * 5))), (50, (pO gr (0 + i * 5))), (51, (pO gr (0 + i * 5))), (52, (pO gr (0 + i * 5))), (57, avS (xO l i).key), (61, avS (xO l i).key), (68, avS (xO l i).product), (72, avS (xO l i).product), (79, avI (xO l i).count), (86, avI (xO l i).ready), (93, avI (xO l i).due), (97, avI (xO l i).due), (5, .v (.slice (some ⟨gr, 0, none⟩) l.length cap)), (62, (iO 4 [avS (xO l i).key, avS (xO l i).key, avS ⟨#[]⟩, avS ⟨#[111, 97]⟩])), (63, avS r63), (73, (iO 4 [avS (xO l i).product, avS (xO l i).product, avS ⟨#[122, 122]⟩, avS ⟨#[]⟩])), (74, avS r74), (80, (iO 3 [avI (xO l i).count, avI 0, avI 100001])), (81, avI r81), (87, (iO 3 [avI (xO l i).ready, avI (-1), avI 345686400000]))], [.box gr ⟨rowL l, 104, cap * 5⟩], k + 1 + 4 * q + 1 + 1 + 1 + 1 + 1⟩ := by
          intro r63 hr63 r74 hr74 r81
          rw [hF]
          refine VA.all (rs := [40, 50]) (by decide +kernel) (by decide) ?_
          refine ⟨⟨_, rfl, .inl rfl, ?_⟩, ⟨_, rfl, .inl rfl, ?_⟩, trivial⟩
          ·
            refine OpE.callT' (k + 1 + 4 * q + 1 + 1 + 1 + 1 + 1) rfl rfl hB rfl Tryz.call14 rfl (pick_X (by rfl) (by decide) (by decide) (by repeat (first | exact AllX.nil | refine AllX.cons ?_))) (by omega) ?_
            rintro _ ⟨r88, rfl⟩
            have hh := hS2 r63 hr63 r74 hr74 r81 r88
            rw [hF] at hh
            exact VA.to hh (by decide +kernel) (Le.mk hB [0] ⟨rfl, rfl, rfl, rfl, rfl, rfl, rfl, rfl, rfl, rfl, rfl, rfl, rfl, rfl, rfl, rfl, rfl, rfl, rfl, rfl, rfl, rfl, rfl, rfl, rfl, rfl, rfl, rfl, trivial⟩ rfl rfl (Nat.le_refl _))
          ·
            refine OpE.buildSlice (zc := #[.int .i64 0, .int .i64 0, .int .i64 0]) rfl hB rfl Tryz.underlying22 Tryz.sizeOf3 Tryz.zeroValue3 (by decide) (by decide) (by kernel_rfl) rfl rfl ?_
            have hh := hS3 r63 hr63 r74 hr74 r81
            rw [hF] at hh
            exact VA.to hh (by decide +kernel) (Le.mk hB [0] ⟨rfl, rfl, rfl, rfl, rfl, rfl, rfl, rfl, rfl, rfl, rfl, rfl, rfl, rfl, rfl, rfl, rfl, rfl, rfl, rfl, rfl, rfl, rfl, rfl, rfl, rfl, rfl, rfl, trivial⟩ rfl rfl (Nat.le_refl _))
        have hS5 : ∀ (r63 : ByteArray) (hr63 : r63.size ≤ 1000 ∧ r63 ≠ ozK) (r74 : ByteArray) (hr74 : r74.size ≤ 1000) (r81 : Int), F 18 (lstB 67 [0, 1, 2, 3, 4, 5, 6, 7, 8, 9, 10, 11, 12, 13, 14, 15, 16, 17, 18, 19, 20, 21, 22, 23, 24, 25, 26, 27, 28, 29, 30, 31, 32, 33, 34, 35, 36, 37, 38, 41, 42, 43, 44, 45, 46, 47, 48, 49, 50]) ⟨[(0, sp p), (53, sp p), (64, sp p), (75, sp p), (82, sp p), (89, sp p), (48, (pO gr (0 + i * 5))), (49, (pO gr (0 + i * 5))), (50, (pO gr (0 + i * 5))), (51, (pO gr (0 + i * 5))), (52, (pO gr (0 + i * 5))), (57, avS (xO l i).key), (61, avS (xO l i).key), (68, avS (xO l i).product), (72, avS (xO l i).product), (79, avI (xO l i).count), (86, avI (xO l i).ready), (93, avI (xO l i).due), (97, avI (xO l i).due), (5, .v (.slice (some ⟨gr, 0, none⟩) l.length cap)), (62, (iO 4 [avS (xO l i).key, avS (xO l i).key, avS ⟨#[]⟩, avS ⟨#[111, 97]⟩])), (63, avS r63), (73, (iO 4 [avS (xO l i).product, avS (xO l i).product, avS ⟨#[122, 122]⟩, avS ⟨#[]⟩])), (74, avS r74), (80, (iO 3 [avI (xO l i).count, avI 0, avI 100001])), (81, avI r81), (98, (iO 3 [avI (xO l i).due, avI (xO l i).due, avI 345686400000]))], [.box gr ⟨rowL l, 104, cap * 5⟩], k + 1 + 4 * q + 1 + 1 + 1 + 1 + 1⟩ := by
          intro r63 hr63 r74 hr74 r81
          rw [hF]
          refine VA.all (rs := [39]) (by decide +kernel) (by decide) ?_
          refine ⟨⟨_, rfl, .inl rfl, ?_⟩, trivial⟩
          refine OpE.buildSlice (zc := #[.int .i64 0, .int .i64 0, .int .i64 0]) rfl hB rfl Tryz.underlying22 Tryz.sizeOf3 Tryz.zeroValue3 (by decide) (by decide) (by kernel_rfl) rfl rfl ?_
          have hh := hS3 r63 hr63 r74 hr74 r81
          rw [hF] at hh
          exact VA.to hh (by decide +kernel) (Le.mk hB [0] ⟨rfl, rfl, rfl, rfl, rfl, rfl, rfl, rfl, rfl, rfl, rfl, rfl, rfl, rfl, rfl, rfl, rfl, rfl, rfl, rfl, rfl, rfl, rfl, rfl, rfl, rfl, rfl, rfl, trivial⟩ rfl rfl (Nat.le_refl _))
        have hS6 : ∀ (r63 : ByteArray) (hr63 : r63.size ≤ 1000 ∧ r63 ≠ ozK) (r74 : ByteArray) (hr74 : r74.size ≤ 1000), F 18 (lstB 67 [0, 1, 2, 3, 4, 5, 6, 7, 8, 9, 10, 11, 12, 13, 14, 15, 16, 17, 18, 19, 20, 21, 22, 23, 24, 25, 26, 27, 28, 29, 30, 31, 32, 34, 35, 36, 37, 38, 39, 41, 42, 43, 44, 45, 46, 47, 48, 49, 50]) ⟨[(0, sp p), (53, sp p), (64, sp p), (75, sp p), (82, sp p), (89, sp p), (48, (pO gr (0 + i * 5))), (49, (pO gr (0 + i * 5))), (50, (pO gr (0 + i * 5))), (51, (pO gr (0 + i * 5))), (52, (pO gr (0 + i * 5))), (57, avS (xO l i).key), (61, avS (xO l i).key), (68, avS (xO l i).product), (72, avS (xO l i).product), (79, avI (xO l i).count), (86, avI (xO l i).ready), (93, avI (xO l i).due), (97, avI (xO l i).due), (5, .v (.slice (some ⟨gr, 0, none⟩) l.length cap)), (62, (iO 4 [avS (xO l i).key, avS (xO l i).key, avS ⟨#[]⟩, avS ⟨#[111, 97]⟩])), (63, avS r63), (73, (iO 4 [avS (xO l i).product, avS (xO l i).product, avS ⟨#[122, 122]⟩, avS ⟨#[]⟩])), (74, avS r74), (80, (iO 3 [avI (xO l i).count, avI 0, avI 100001])), (87, (iO 3 [avI (xO l i).ready, avI (-1), avI 345686400000])), (98, (iO 3 [avI (xO l i).due, avI (xO l i).due, avI 345686400000]))], [.box gr ⟨rowL l, 104, cap * 5⟩], k + 1 + 4 * q + 1 + 1 + 1 + 1⟩ := by
          intro r63 hr63 r74 hr74
          rw [hF]
          refine VA.all (rs := [33]) (by decide +kernel) (by decide) ?_
          refine ⟨⟨_, rfl, .inl rfl, ?_⟩, trivial⟩
          refine OpE.callT' (k + 1 + 4 * q + 1 + 1 + 1 + 1) rfl rfl hB rfl Tryz.call14 rfl (pick_X (by rfl) (by decide) (by decide) (by repeat (first | exact AllX.nil | refine AllX.cons ?_))) (by omega) ?_
          rintro _ ⟨r81, rfl⟩
          have hh := hS3 r63 hr63 r74 hr74 r81
          rw [hF] at hh
          exact VA.to hh (by decide +kernel) (Le.mk hB [0] ⟨rfl, rfl, rfl, rfl, rfl, rfl, rfl, rfl, rfl, rfl, rfl, rfl, rfl, rfl, rfl, rfl, rfl, rfl, rfl, rfl, rfl, rfl, rfl, rfl, rfl, rfl, rfl, rfl, trivial⟩ rfl rfl (Nat.le_refl _))
        have hS7 : ∀ (r63 : ByteArray) (hr63 : r63.size ≤ 1000 ∧ r63 ≠ ozK) (r74 : ByteArray) (hr74 : r74.size ≤ 1000) (r81 : Int), F 19 (lstB 67 [0, 1, 2, 3, 4, 5, 6, 7, 8, 9, 10, 11, 12, 13, 14, 15, 16, 17, 18, 19, 20, 21, 22, 23, 24, 25, 26, 27, 28, 29, 30, 31, 32, 33, 34, 35, 36, 37, 38, 41, 42, 43, 44, 45, 46, 47, 48, 49]) ⟨[(0, sp p), (53, sp p), (64, sp p), (75, sp p), (82, sp p), (89, sp p), (48, (pO gr (0 + i * 5))), (49, (pO gr (0 + i * 5))), (50, (pO gr (0 + i * 5))), (51, (pO gr (0 + i * 5))), (52, (pO gr (0 + i * 5))), (57, avS (xO l i).key), (61, avS (xO l i).key), (68, avS (xO l i).product), (72, avS (xO l i).product), (79, avI (xO l i).count), (86, avI (xO l i).ready), (93, avI (xO l i).due), (97, avI (xO l i).due), (5, .v (.slice (some ⟨gr, 0, none⟩) l.length cap)), (62, (iO 4 [avS (xO l i).key, avS (xO l i).key, avS ⟨#[]⟩, avS ⟨#[111, 97]⟩])), (63, avS r63), (73, (iO 4 [avS (xO l i).product, avS (xO l i).product, avS ⟨#[122, 122]⟩, avS ⟨#[]⟩])), (74, avS r74), (80, (iO 3 [avI (xO l i).count, avI 0, avI 100001])), (81, avI r81)], [.box gr ⟨rowL l, 104, cap * 5⟩], k + 1 + 4 * q + 1 + 1 + 1 + 1 + 1⟩ := by
          intro r63 hr63 r74 hr74 r81
          rw [hF]
          refine VA.all (rs := [39, 50]) (by decide +kernel) (by decide) ?_
          refine ⟨⟨_, rfl, .inl rfl, ?_⟩, ⟨_, rfl, .inl rfl, ?_⟩, trivial⟩
          ·
            refine OpE.buildSlice (zc := #[.int .i64 0, .int .i64 0, .int .i64 0]) rfl hB rfl Tryz.underlying22 Tryz.sizeOf3 Tryz.zeroValue3 (by decide) (by decide) (by kernel_rfl) rfl rfl ?_
            have hh := hS4 r63 hr63 r74 hr74 r81
            rw [hF] at hh
            exact VA.to hh (by decide +kernel) (Le.mk hB [0] ⟨rfl, rfl, rfl, rfl, rfl, rfl, rfl, rfl, rfl, rfl, rfl, rfl, rfl, rfl, rfl, rfl, rfl, rfl, rfl, rfl, rfl, rfl, rfl, rfl, rfl, rfl, rfl, trivial⟩ rfl rfl (Nat.le_refl _))
          ·
            refine OpE.buildSlice (zc := #[.int .i64 0, .int .i64 0, .int .i64 0]) rfl hB rfl Tryz.underlying22 Tryz.sizeOf3 Tryz.zeroValue3 (by decide) (by decide) (by kernel_rfl) rfl rfl ?_
            have hh := hS5 r63 hr63 r74 hr74 r81
            rw [hF] at hh
            exact VA.to hh (by decide +kernel) (Le.mk hB [0] ⟨rfl, rfl, rfl, rfl, rfl, rfl, rfl, rfl, rfl, rfl, rfl, rfl, rfl, rfl, rfl, rfl, rfl, rfl, rfl, rfl, rfl, rfl, rfl, rfl, rfl, rfl, rfl, trivial⟩ rfl rfl (Nat.le_refl _))
        have hS8 : ∀ (r63 : ByteArray) (hr63 : r63.size ≤ 1000 ∧ r63 ≠ ozK) (r74 : ByteArray) (hr74 : r74.size ≤ 1000), F 19 (lstB 67 [0, 1, 2, 3, 4, 5, 6, 7, 8, 9, 10, 11, 12, 13, 14, 15, 16, 17, 18, 19, 20, 21, 22, 23, 24, 25, 26, 27, 28, 29, 30, 31, 32, 34, 35, 36, 37, 38, 39, 41, 42, 43, 44, 45, 46, 47, 48, 49]) ⟨[(0, sp p), (53, sp p), (64, sp p), (75, sp p), (82, sp p), (89, sp p), (48, (pO gr (0 + i * 5))), (49, (pO gr (0 + i * 5))), (50, (pO gr (0 + i * 5))), (51, (pO gr (0 + i * 5))), (52, (pO gr (0 + i * 5))), (57, avS (xO l i).key), (61, avS (xO l i).key), (68, avS (xO l i).product), (72, avS (xO l i).product), (79, avI (xO l i).count), (86, avI (xO l i).ready), (93, avI (xO l i).due), (97, avI (xO l i).due), (5, .v (.slice (some ⟨gr, 0, none⟩) l.length cap)), (62, (iO 4 [avS (xO l i).key, avS (xO l i).key, avS ⟨#[]⟩, avS ⟨#[111, 97]⟩])), (63, avS r63), (73, (iO 4 [avS (xO l i).product, avS (xO l i).product, avS ⟨#[122, 122]⟩, avS ⟨#[]⟩])), (74, avS r74), (80, (iO 3 [avI (xO l i).count, avI 0, avI 100001])), (87, (iO 3 [avI (xO l i).ready, avI (-1), avI 345686400000]))], [.box gr ⟨rowL l, 104, cap * 5⟩], k + 1 + 4 * q + 1 + 1 + 1 + 1⟩ := by
          intro r63 hr63 r74 hr74
          rw [hF]
          refine VA.all (rs := [33, 50]) (by decide +kernel) (by decide) ?_
          refine ⟨⟨_, rfl, .inl rfl, ?_⟩, ⟨_, rfl, .inl rfl, ?_⟩, trivial⟩
          ·
            refine OpE.callT' (k + 1 + 4 * q + 1 + 1 + 1 + 1) rfl rfl hB rfl Tryz.call14 rfl (pick_X (by rfl) (by decide) (by decide) (by repeat (first | exact AllX.nil | refine AllX.cons ?_))) (by omega) ?_
            rintro _ ⟨r81, rfl⟩
            have hh := hS4 r63 hr63 r74 hr74 r81
            rw [hF] at hh
            exact VA.to hh (by decide +kernel) (Le.mk hB [0] ⟨rfl, rfl, rfl, rfl, rfl, rfl, rfl, rfl, rfl, rfl, rfl, rfl, rfl, rfl, rfl, rfl, rfl, rfl, rfl, rfl, rfl, rfl, rfl, rfl, rfl, rfl, rfl, trivial⟩ rfl rfl (Nat.le_refl _))
          ·
            refine OpE.buildSlice (zc := #[.int .i64 0, .int .i64 0, .int .i64 0]) rfl hB rfl Tryz.underlying22 Tryz.sizeOf3 Tryz.zeroValue3 (by decide) (by decide) (by kernel_rfl) rfl rfl ?_
            have hh := hS6 r63 hr63 r74 hr74
            rw [hF] at hh
            exact VA.to hh (by decide +kernel) (Le.mk hB [0] ⟨rfl, rfl, rfl, rfl, rfl, rfl, rfl, rfl, rfl, rfl, rfl, rfl, rfl, rfl, rfl, rfl, rfl, rfl, rfl, rfl, rfl, rfl, rfl, rfl, rfl, rfl, rfl, trivial⟩ rfl rfl (Nat.le_refl _))
        have hS9 : ∀ (r63 : ByteArray) (hr63 : r63.size ≤ 1000 ∧ r63 ≠ ozK) (r74 : ByteArray) (hr74 : r74.size ≤ 1000), F 19 (lstB 67 [0, 1, 2, 3, 4, 5, 6, 7, 8, 9, 10, 11, 12, 13, 14, 15, 16, 17, 18, 19, 20, 21, 22, 23, 24, 25, 26, 27, 28, 29, 30, 31, 32, 34, 35, 36, 37, 38, 41, 42, 43, 44, 45, 46, 47, 48, 49, 50]) ⟨[(0, sp p), (53, sp p), (64, sp p), (75, sp p), (82, sp p), (89, sp p), (48, (pO gr (0 + i * 5))), (49, (pO gr (0 + i * 5))), (50, (pO gr (0 + i * 5))), (51, (pO gr (0 + i * 5))), (52, (pO gr (0 + i * 5))), (57, avS (xO l i).key), (61, avS (xO l i).key), (68, avS (xO l i).product), (72, avS (xO l i).product), (79, avI (xO l i).count), (86, avI (xO l i).ready), (93, avI (xO l i).due), (97, avI (xO l i).due), (5, .v (.slice (some ⟨gr, 0, none⟩) l.length cap)), (62, (iO 4 [avS (xO l i).key, avS (xO l i).key, avS ⟨#[]⟩, avS ⟨#[111, 97]⟩])), (63, avS r63), (73, (iO 4 [avS (xO l i).product, avS (xO l i).product, avS ⟨#[122, 122]⟩, avS ⟨#[]⟩])), (74, avS r74), (80, (iO 3 [avI (xO l i).count, avI 0, avI 100001])), (98, (iO 3 [avI (xO l i).due, avI (xO l i).due, avI 345686400000]))], [.box gr ⟨rowL l, 104, cap * 5⟩], k + 1 + 4 * q + 1 + 1 + 1 + 1⟩ := by
          intro r63 hr63 r74 hr74
          rw [hF]
          refine VA.all (rs := [33, 39]) (by decide +kernel) (by decide) ?_
          refine ⟨⟨_, rfl, .inl rfl, ?_⟩, ⟨_, rfl, .inl rfl, ?_⟩, trivial⟩
          ·
            refine OpE.callT' (k + 1 + 4 * q + 1 + 1 + 1 + 1) rfl rfl hB rfl Tryz.call14 rfl (pick_X (by rfl) (by decide) (by decide) (by repeat (first | exact AllX.nil | refine AllX.cons ?_))) (by omega) ?_
            rintro _ ⟨r81, rfl⟩
            have hh := hS5 r63 hr63 r74 hr74 r81
            rw [hF] at hh
            exact VA.to hh (by decide +kernel) (Le.mk hB [0] ⟨rfl, rfl, rfl, rfl, rfl, rfl, rfl, rfl, rfl, rfl, rfl, rfl, rfl, rfl, rfl, rfl, rfl, rfl, rfl, rfl, rfl, rfl, rfl, rfl, rfl, rfl, rfl, trivial⟩ rfl rfl (Nat.le_refl _))
          ·
            refine OpE.buildSlice (zc := #[.int .i64 0, .int .i64 0, .int .i64 0]) rfl hB rfl Tryz.underlying22 Tryz.sizeOf3 Tryz.zeroValue3 (by decide) (by decide) (by kernel_rfl) rfl rfl ?_
            have hh := hS6 r63 hr63 r74 hr74
            rw [hF] at hh
            exact VA.to hh (by decide +kernel) (Le.mk hB [0] ⟨rfl, rfl, rfl, rfl, rfl, rfl, rfl, rfl, rfl, rfl, rfl, rfl, rfl, rfl, rfl, rfl, rfl, rfl, rfl, rfl, rfl, rfl, rfl, rfl, rfl, rfl, rfl, trivial⟩ rfl rfl (Nat.le_refl _))
        have hS10 : ∀ (r63 : ByteArray) (hr63 : r63.size ≤ 1000 ∧ r63 ≠ ozK) (r74 : ByteArray) (hr74 : r74.size ≤ 1000), F 19 (lstB 67 [0, 1, 2, 3, 4, 5, 6, 7, 8, 9, 10, 11, 12, 13, 14, 15, 16, 17, 18, 19, 20, 21, 22, 23, 24, 25, 26, 27, 28, 29, 30, 31, 34, 35, 36, 37, 38, 39, 41, 42, 43, 44, 45, 46, 47, 48, 49, 50]) ⟨[(0, sp p), (53, sp p), (64, sp p), (75, sp p), (82, sp p), (89, sp p), (48, (pO gr (0 + i * 5))), (49, (pO gr (0 + i * 5))), (50, (pO gr (0 + i * 5))), (51, (pO gr (0 + i * 5))), (52, (pO gr (0 + i * 5))), (57, avS (xO l i).key), (61, avS (xO l i).key), (68, avS (xO l i).product), (72, avS (xO l i).product), (79, avI (xO l i).count), (86, avI (xO l i).ready), (93, avI (xO l i).due), (97, avI (xO l i).due), (5, .v (.slice (some ⟨gr, 0, none⟩) l.length cap)), (62, (iO 4 [avS (xO l i).key, avS (xO l i).key, avS ⟨#[]⟩, avS ⟨#[111, 97]⟩])), (63, avS r63), (73, (iO 4 [avS (xO l i).product, avS (xO l i).product, avS ⟨#[122, 122]⟩, avS ⟨#[]⟩])), (74, avS r74), (87, (iO 3 [avI (xO l i).ready, avI (-1), avI 345686400000])), (98, (iO 3 [avI (xO l i).due, avI (xO l i).due, avI 345686400000]))], [.box gr ⟨rowL l, 104, cap * 5⟩], k + 1 + 4 * q + 1 + 1 + 1 + 1⟩ := by
          intro r63 hr63 r74 hr74
          rw [hF]
          refine VA.all (rs := [32]) (by decide +kernel) (by decide) ?_
          refine ⟨⟨_, rfl, .inl rfl, ?_⟩, trivial⟩
          refine OpE.buildSlice (zc := #[.int .i64 0, .int .i64 0, .int .i64 0]) rfl hB rfl Tryz.underlying22 Tryz.sizeOf3 Tryz.zeroValue3 (by decide) (by decide) (by kernel_rfl) rfl rfl ?_
          have hh := hS6 r63 hr63 r74 hr74
          rw [hF] at hh
          exact VA.to hh (by decide +kernel) (Le.mk hB [0] ⟨rfl, rfl, rfl, rfl, rfl, rfl, rfl, rfl, rfl, rfl, rfl, rfl, rfl, rfl, rfl, rfl, rfl, rfl, rfl, rfl, rfl, rfl, rfl, rfl, rfl, rfl, rfl, trivial⟩ rfl rfl (Nat.le_refl _))
        have hS11 : ∀ (r63 : ByteArray) (hr63 : r63.size ≤ 1000 ∧ r63 ≠ ozK), F 19 (lstB 67 [0, 1, 2, 3, 4, 5, 6, 7, 8, 9, 10, 11, 12, 13, 14, 15, 16, 17, 18, 19, 20, 21, 22, 23, 24, 25, 27, 28, 29, 30, 31, 32, 34, 35, 36, 37, 38, 39, 41, 42, 43, 44, 45, 46, 47, 48, 49, 50]) ⟨[(0, sp p), (53, sp p), (64, sp p), (75, sp p), (82, sp p), (89, sp p), (48, (pO gr (0 + i * 5))), (49, (pO gr (0 + i * 5))), (50, (pO gr (0 + i * 5))), (51, (pO gr (0 + i * 5))), (52, (pO gr (0 + i * 5))), (57, avS (xO l i).key), (61, avS (xO l i).key), (68, avS (xO l i).product), (72, avS (xO l i).product), (79, avI (xO l i).count), (86, avI (xO l i).ready), (93, avI (xO l i).due), (97, avI (xO l i).due), (5, .v (.slice (some ⟨gr, 0, none⟩) l.length cap)), (62, (iO 4 [avS (xO l i).key, avS (xO l i).key, avS ⟨#[]⟩, avS ⟨#[111, 97]⟩])), (63, avS r63), (73, (iO 4 [avS (xO l i).product, avS (xO l i).product, avS ⟨#[122, 122]⟩, avS ⟨#[]⟩])), (80, (iO 3 [avI (xO l i).count, avI 0, avI 100001])), (87, (iO 3 [avI (xO l i).ready, avI (-1), avI 345686400000])), (98, (iO 3 [avI (xO l i).due, avI (xO l i).due, avI 345686400000]))], [.box gr ⟨rowL l, 104, cap * 5⟩], k + 1 + 4 * q + 1 + 1 + 1⟩ := by
          intro r63 hr63
          rw [hF]
          refine VA.all (rs := [26]) (by decide +kernel) (by decide) ?_
          refine ⟨⟨_, rfl, .inl rfl, ?_⟩, trivial⟩
          refine OpE.callT' (k + 1 + 4 * q + 1 + 1 + 1) rfl rfl hB rfl Tryz.call82 rfl (some_T 1000 (by rfl) (by decide) (by decide) (AllS.cons (hok.getD i).2.1 (AllS.cons (hok.getD i).2.1 (AllS.cons (by decide) (AllS.cons (by decide) AllS.nil))))) (by omega) ?_
          rintro _ ⟨r74, hr74, rfl⟩
          have hh := hS6 r63 hr63 r74 hr74
          rw [hF] at hh
          exact VA.to hh (by decide +kernel) (Le.mk hB [0] ⟨rfl, rfl, rfl, rfl, rfl, rfl, rfl, rfl, rfl, rfl, rfl, rfl, rfl, rfl, rfl, rfl, rfl, rfl, rfl, rfl, rfl, rfl, rfl, rfl, rfl, rfl, rfl, trivial⟩ rfl rfl (Nat.le_refl _))
        have hS12 : ∀ (r63 : ByteArray) (hr63 : r63.size ≤ 1000 ∧ r63 ≠ ozK) (r74 : ByteArray) (hr74 : r74.size ≤ 1000), F 20 (lstB 67 [0, 1, 2, 3, 4, 5, 6, 7, 8, 9, 10, 11, 12, 13, 14, 15, 16, 17, 18, 19, 20, 21, 22, 23, 24, 25, 26, 27, 28, 29, 30, 31, 32, 34, 35, 36, 37, 38, 41, 42, 43, 44, 45, 46, 47, 48, 49]) ⟨[(0, sp p), (53, sp p), (64, sp p), (75, sp p), (82, sp p), (89, sp p), (48, (pO gr (0 + i * 5))), (49, (pO gr (0 + i * 5))), (50, (pO gr (0 + i * 5))), (51, (pO gr (0 + i * 5))), (52, (pO gr (0 + i * 5))), (57, avS (xO l i).key), (61, avS (xO l i).key), (68, avS (xO l i).product), (72, avS (xO l i).product), (79, avI (xO l i).count), (86, avI (xO l i).ready), (93, avI (xO l i).due), (97, avI (xO l i).due), (5, .v (.slice (some ⟨gr, 0, none⟩) l.length cap)), (62, (iO 4 [avS (xO l i).key, avS (xO l i).key, avS ⟨#[]⟩, avS ⟨#[111, 97]⟩])), (63, avS r63), (73, (iO 4 [avS (xO l i).product, avS (xO l i).product, avS ⟨#[122, 122]⟩, avS ⟨#[]⟩])), (74, avS r74), (80, (iO 3 [avI (xO l i).count, avI 0, avI 100001]))], [.box gr ⟨rowL l, 104, cap * 5⟩], k + 1 + 4 * q + 1 + 1 + 1 + 1⟩ := by
          intro r63 hr63 r74 hr74
          rw [hF]
          refine VA.all (rs := [33, 39, 50]) (by decide +kernel) (by decide) ?_
          refine ⟨⟨_, rfl, .inl rfl, ?_⟩, ⟨_, rfl, .inl rfl, ?_⟩, ⟨_, rfl, .inl rfl, ?_⟩, trivial⟩
          ·
            refine OpE.callT' (k + 1 + 4 * q + 1 + 1 + 1 + 1) rfl rfl hB rfl Tryz.call14 rfl (pick_X (by rfl) (by decide) (by decide) (by repeat (first | exact AllX.nil | refine AllX.cons ?_))) (by omega) ?_
            rintro _ ⟨r81, rfl⟩
            have hh := hS7 r63 hr63 r74 hr74 r81
            rw [hF] at hh
            exact VA.to hh (by decide +kernel) (Le.mk hB [0] ⟨rfl, rfl, rfl, rfl, rfl, rfl, rfl, rfl, rfl, rfl, rfl, rfl, rfl, rfl, rfl, rfl, rfl, rfl, rfl, rfl, rfl, rfl, rfl, rfl, rfl, rfl, trivial⟩ rfl rfl (Nat.le_refl _))
          ·
            refine OpE.buildSlice (zc := #[.int .i64 0, .int .i64 0, .int .i64 0]) rfl hB rfl Tryz.underlying22 Tryz.sizeOf3 Tryz.zeroValue3 (by decide) (by decide) (by kernel_rfl) rfl rfl ?_
            have hh := hS8 r63 hr63 r74 hr74
            rw [hF] at hh
            exact VA.to hh (by decide +kernel) (Le.mk hB [0] ⟨rfl, rfl, rfl, rfl, rfl, rfl, rfl, rfl, rfl, rfl, rfl, rfl, rfl, rfl, rfl, rfl, rfl, rfl, rfl, rfl, rfl, rfl, rfl, rfl, rfl, rfl, trivial⟩ rfl rfl (Nat.le_refl _))
          ·
            refine OpE.buildSlice (zc := #[.int .i64 0, .int .i64 0, .int .i64 0]) rfl hB rfl Tryz.underlying22 Tryz.sizeOf3 Tryz.zeroValue3 (by decide) (by decide) (by kernel_rfl) rfl rfl ?_
            have hh := hS9 r63 hr63 r74 hr74
            rw [hF] at hh
            exact VA.to hh (by decide +kernel) (Le.mk hB [0] ⟨rfl, rfl, rfl, rfl, rfl, rfl, rfl, rfl, rfl, rfl, rfl, rfl, rfl, rfl, rfl, rfl, rfl, rfl, rfl, rfl, rfl, rfl, rfl, rfl, rfl, rfl, trivial⟩ rfl rfl (Nat.le_refl _))
        have hS13 : ∀ (r63 : ByteArray) (hr63 : r63.size ≤ 1000 ∧ r63 ≠ ozK) (r74 : ByteArray) (hr74 : r74.size ≤ 1000), F 20 (lstB 67 [0, 1, 2, 3, 4, 5, 6, 7, 8, 9, 10, 11, 12, 13, 14, 15, 16, 17, 18, 19, 20, 21, 22, 23, 24, 25, 26, 27, 28, 29, 30, 31, 34, 35, 36, 37, 38, 39, 41, 42, 43, 44, 45, 46, 47, 48, 49]) ⟨[(0, sp p), (53, sp p), (64, sp p), (75, sp p), (82, sp p), (89, sp p), (48, (pO gr (0 + i * 5))), (49, (pO gr (0 + i * 5))), (50, (pO gr (0 + i * 5))), (51, (pO gr (0 + i * 5))), (52, (pO gr (0 + i * 5))), (57, avS (xO l i).key), (61, avS (xO l i).key), (68, avS (xO l i).product), (72, avS (xO l i).product), (79, avI (xO l i).count), (86, avI (xO l i).ready), (93, avI (xO l i).due), (97, avI (xO l i).due), (5, .v (.slice (some ⟨gr, 0, none⟩) l.length cap)), (62, (iO 4 [avS (xO l i).key, avS (xO l i).key, avS ⟨#[]⟩, avS ⟨#[111, 97]⟩])), (63, avS r63), (73, (iO 4 [avS (xO l i).product, avS (xO l i).product, avS ⟨#[122, 122]⟩, avS ⟨#[]⟩])), (74, avS r74), (87, (iO 3 [avI (xO l i).ready, avI (-1), avI 345686400000]))], [.box gr ⟨rowL l, 104, cap * 5⟩], k + 1 + 4 * q + 1 + 1 + 1 + 1⟩ := by
          intro r63 hr63 r74 hr74
          rw [hF]
          refine VA.all (rs := [32, 50]) (by decide +kernel) (by decide) ?_
          refine ⟨⟨_, rfl, .inl rfl, ?_⟩, ⟨_, rfl, .inl rfl, ?_⟩, trivial⟩
          ·
            refine OpE.buildSlice (zc := #[.int .i64 0, .int .i64 0, .int .i64 0]) rfl hB rfl Tryz.underlying22 Tryz.sizeOf3 Tryz.zeroValue3 (by decide) (by decide) (by kernel_rfl) rfl rfl ?_
            have hh := hS8 r63 hr63 r74 hr74
            rw [hF] at hh
            exact VA.to hh (by decide +kernel) (Le.mk hB [0] ⟨rfl, rfl, rfl, rfl, rfl, rfl, rfl, rfl, rfl, rfl, rfl, rfl, rfl, rfl, rfl, rfl, rfl, rfl, rfl, rfl, rfl, rfl, rfl, rfl, rfl, rfl, trivial⟩ rfl rfl (Nat.le_refl _))
          ·
            refine OpE.buildSlice (zc := #[.int .i64 0, .int .i64 0, .int .i64 0]) rfl hB rfl Tryz.underlying22 Tryz.sizeOf3 Tryz.zeroValue3 (by decide) (by decide) (by kernel_rfl) rfl rfl ?_
            have hh := hS10 r63 hr63 r74 hr74
            rw [hF] at hh
            exact VA.to hh (by decide +kernel) (Le.mk hB [0] ⟨rfl, rfl, rfl, rfl, rfl, rfl, rfl, rfl, rfl, rfl, rfl, rfl, rfl, rfl, rfl, rfl, rfl, rfl, rfl, rfl, rfl, rfl, rfl, rfl, rfl, rfl, trivial⟩ rfl rfl (Nat.le_refl _))
        have hS14 : ∀ (r63 : ByteArray) (hr63 : r63.size ≤ 1000 ∧ r63 ≠ ozK) (r74 : ByteArray) (hr74 : r74.size ≤ 1000), F 20 (lstB 67 [0, 1, 2, 3, 4, 5, 6, 7, 8, 9, 10, 11, 12, 13, 14, 15, 16, 17, 18, 19, 20, 21, 22, 23, 24, 25, 26, 27, 28, 29, 30, 31, 34, 35, 36, 37, 38, 41, 42, 43, 44, 45, 46, 47, 48, 49, 50]) ⟨[(0, sp p), (53, sp p), (64, sp p), (75, sp p), (82, sp p), (89, sp p), (48, (pO gr (0 + i * 5))), (49, (pO gr (0 + i * 5))), (50, (pO gr (0 + i * 5))), (51, (pO gr (0 + i * 5))), (52, (pO gr (0 + i * 5))), (57, avS (xO l i).key), (61, avS (xO l i).key), (68, avS (xO l i).product), (72, avS (xO l i).product), (79, avI (xO l i).count), (86, avI (xO l i).ready), (93, avI (xO l i).due), (97, avI (xO l i).due), (5, .v (.slice (some ⟨gr, 0, none⟩) l.length cap)), (62, (iO 4 [avS (xO l i).key, avS (xO l i).key, avS ⟨#[]⟩, avS ⟨#[111, 97]⟩])), (63, avS r63), (73, (iO 4 [avS (xO l i).product, avS (xO l i).product, avS ⟨#[122, 122]⟩, avS ⟨#[]⟩])), (74, avS r74), (98, (iO 3 [avI (xO l i).due, avI (xO l i).due, avI 345686400000]))], [.box gr ⟨rowL l, 104, cap * 5⟩], k + 1 + 4 * q + 1 + 1 + 1 + 1⟩ := by
          intro r63 hr63 r74 hr74
          rw [hF]
          refine VA.all (rs := [32, 39]) (by decide +kernel) (by decide) ?_
          refine ⟨⟨_, rfl, .inl rfl, ?_⟩, ⟨_, rfl, .inl rfl, ?_⟩, trivial⟩
          ·
            refine OpE.buildSlice (zc := #[.int .i64 0, .int .i64 0, .int .i64 0]) rfl hB rfl Tryz.underlying22 Tryz.sizeOf3 Tryz.zeroValue3 (by decide) (by decide) (by kernel_rfl) rfl rfl ?_
            have hh := hS9 r63 hr63 r74 hr74
            rw [hF] at hh
            exact VA.to hh (by decide +kernel) (Le.mk hB [0] ⟨rfl, rfl, rfl, rfl, rfl, rfl, rfl, rfl, rfl, rfl, rfl, rfl, rfl, rfl, rfl, rfl, rfl, rfl, rfl, rfl, rfl, rfl, rfl, rfl, rfl, rfl, trivial⟩ rfl rfl (Nat.le_refl _))
          ·
            refine OpE.buildSlice (zc := #[.int .i64 0, .int .i64 0, .int .i64 0]) rfl hB rfl Tryz.underlying22 Tryz.sizeOf3 Tryz.zeroValue3 (by decide) (by decide) (by kernel_rfl) rfl rfl ?_
            have hh := hS10 r63 hr63 r74 hr74
            rw [hF] at hh
            exact VA.to hh (by decide +kernel) (Le.mk hB [0] ⟨rfl, rfl, rfl, rfl, rfl, rfl, rfl, rfl, rfl, rfl, rfl, rfl, rfl, rfl, rfl, rfl, rfl, rfl, rfl, rfl, rfl, rfl, rfl, rfl, rfl, rfl, trivial⟩ rfl rfl (Nat.le_refl _))
        have hS15 : ∀ (r63 : ByteArray) (hr63 : r63.size ≤ 1000 ∧ r63 ≠ ozK), F 20 (lstB 67 [0, 1, 2, 3, 4, 5, 6, 7, 8, 9, 10, 11, 12, 13, 14, 15, 16, 17, 18, 19, 20, 21, 22, 23, 24, 25, 27, 28, 29, 30, 31, 32, 34, 35, 36, 37, 38, 39, 41, 42, 43, 44, 45, 46, 47, 48, 49]) ⟨[(0, sp p), (53, sp p), (64, sp p), (75, sp p), (82, sp p), (89, sp p), (48, (pO gr (0 + i * 5))), (49, (pO gr (0 + i * 5))), (50, (pO gr (0 + i * 5))), (51, (pO gr (0 + i * 5))), (52, (pO gr (0 + i * 5))), (57, avS (xO l i).key), (61, avS (xO l i).key), (68, avS (xO l i).product), (72, avS (xO l i).product), (79, avI (xO l i).count), (86, avI (xO l i).ready), (93, avI (xO l i).due), (97, avI (xO l i).due), (5, .v (.slice (some ⟨gr, 0, none⟩) l.length cap)), (62, (iO 4 [avS (xO l i).key, avS (xO l i).key, avS ⟨#[]⟩, avS ⟨#[111, 97]⟩])), (63, avS r63), (73, (iO 4 [avS (xO l i).product, avS (xO l i).product, avS ⟨#[122, 122]⟩, avS ⟨#[]⟩])), (80, (iO 3 [avI (xO l i).count, avI 0, avI 100001])), (87, (iO 3 [avI (xO l i).ready, avI (-1), avI 345686400000]))], [.box gr ⟨rowL l, 104, cap * 5⟩], k + 1 + 4 * q + 1 + 1 + 1⟩ := by
          intro r63 hr63
          rw [hF]
          refine VA.all (rs := [26, 50]) (by decide +kernel) (by decide) ?_
          refine ⟨⟨_, rfl, .inl rfl, ?_⟩, ⟨_, rfl, .inl rfl, ?_⟩, trivial⟩
          ·
            refine OpE.callT' (k + 1 + 4 * q + 1 + 1 + 1) rfl rfl hB rfl Tryz.call82 rfl (some_T 1000 (by rfl) (by decide) (by decide) (AllS.cons (hok.getD i).2.1 (AllS.cons (hok.getD i).2.1 (AllS.cons (by decide) (AllS.cons (by decide) AllS.nil))))) (by omega) ?_
            rintro _ ⟨r74, hr74, rfl⟩
            have hh := hS8 r63 hr63 r74 hr74
            rw [hF] at hh
            exact VA.to hh (by decide +kernel) (Le.mk hB [0] ⟨rfl, rfl, rfl, rfl, rfl, rfl, rfl, rfl, rfl, rfl, rfl, rfl, rfl, rfl, rfl, rfl, rfl, rfl, rfl, rfl, rfl, rfl, rfl, rfl, rfl, rfl, trivial⟩ rfl rfl (Nat.le_refl _))
          ·
            refine OpE.buildSlice (zc := #[.int .i64 0, .int .i64 0, .int .i64 0]) rfl hB rfl Tryz.underlying22 Tryz.sizeOf3 Tryz.zeroValue3 (by decide) (by decide) (by kernel_rfl) rfl rfl ?_
            have hh := hS11 r63 hr63
            rw [hF] at hh
            exact VA.to hh (by decide +kernel) (Le.mk hB [0] ⟨rfl, rfl, rfl, rfl, rfl, rfl, rfl, rfl, rfl, rfl, rfl, rfl, rfl, rfl, rfl, rfl, rfl, rfl, rfl, rfl, rfl, rfl, rfl, rfl, rfl, rfl, trivial⟩ rfl rfl (Nat.le_refl _))
        have hS16 : ∀ (r63 : ByteArray) (hr63 : r63.size ≤ 1000 ∧ r63 ≠ ozK), F 20 (lstB 67 [0, 1, 2, 3, 4, 5, 6, 7, 8, 9, 10, 11, 12, 13, 14, 15, 16, 17, 18, 19, 20, 21, 22, 23, 24, 25, 27, 28, 29, 30, 31, 32, 34, 35, 36, 37, 38, 41, 42, 43, 44, 45, 46, 47, 48, 49, 50]) ⟨[(0, sp p), (53, sp p), (64, sp p), (75, sp p), (82, sp p), (89, sp p), (48, (pO gr (0 + i * 5))), (49, (pO gr (0 + i * 5))), (50, (pO gr (0 + i * 5))), (51, (pO gr (0 + i * 5))), (52, (pO gr (0 + i * 5))), (57, avS (xO l i).key), (61, avS (xO l i).key), (68, avS (xO l i).product), (72, avS (xO l i).product), (79, avI (xO l i).count), (86, avI (xO l i).ready), (93, avI (xO l i).due), (97, avI (xO l i).due), (5, .v (.slice (some ⟨gr, 0, none⟩) l.length cap)), (62, (iO 4 [avS (xO l i).key, avS (xO l i).key, avS ⟨#[]⟩, avS ⟨#[111, 97]⟩])), (63, avS r63), (73, (iO 4 [avS (xO l i).product, avS (xO l i).product, avS ⟨#[122, 122]⟩, avS ⟨#[]⟩])), (80, (iO 3 [avI (xO l i).count, avI 0, avI 100001])), (98, (iO 3 [avI (xO l i).due, avI (xO l i).due, avI 345686400000]))], [.box gr ⟨rowL l, 104, cap * 5⟩], k + 1 + 4 * q + 1 + 1 + 1⟩ := by
          intro r63 hr63
          rw [hF]
          refine VA.all (rs := [26, 39]) (by decide +kernel) (by decide) ?_
          refine ⟨⟨_, rfl, .inl rfl, ?_⟩, ⟨_, rfl, .inl rfl, ?_⟩, trivial⟩
          ·
            refine OpE.callT' (k + 1 + 4 * q + 1 + 1 + 1) rfl rfl hB rfl Tryz.call82 rfl (some_T 1000 (by rfl) (by decide) (by decide) (AllS.cons (hok.getD i).2.1 (AllS.cons (hok.getD i).2.1 (AllS.cons (by decide) (AllS.cons (by decide) AllS.nil))))) (by omega) ?_
            rintro _ ⟨r74, hr74, rfl⟩
            have hh := hS9 r63 hr63 r74 hr74
            rw [hF] at hh
            exact VA.to hh (by decide +kernel) (Le.mk hB [0] ⟨rfl, rfl, rfl, rfl, rfl, rfl, rfl, rfl, rfl, rfl, rfl, rfl, rfl, rfl, rfl, rfl, rfl, rfl, rfl, rfl, rfl, rfl, rfl, rfl, rfl, rfl, trivial⟩ rfl rfl (Nat.le_refl _))
          ·
            refine OpE.buildSlice (zc := #[.int .i64 0, .int .i64 0, .int .i64 0]) rfl hB rfl Tryz.underlying22 Tryz.sizeOf3 Tryz.zeroValue3 (by decide) (by decide) (by kernel_rfl) rfl rfl ?_
            have hh := hS11 r63 hr63
            rw [hF] at hh
            exact VA.to hh (by decide +kernel) (Le.mk hB [0] ⟨rfl, rfl, rfl, rfl, rfl, rfl, rfl, rfl, rfl, rfl, rfl, rfl, rfl, rfl, rfl, rfl, rfl, rfl, rfl, rfl, rfl, rfl, rfl, rfl, rfl, rfl, trivial⟩ rfl rfl (Nat.le_refl _))
        have hS17 : ∀ (r63 : ByteArray) (hr63 : r63.size ≤ 1000 ∧ r63 ≠ ozK), F 20 (lstB 67 [0, 1, 2, 3, 4, 5, 6, 7, 8, 9, 10, 11, 12, 13, 14, 15, 16, 17, 18, 19, 20, 21, 22, 23, 24, 25, 27, 28, 29, 30, 31, 34, 35, 36, 37, 38, 39, 41, 42, 43, 44, 45, 46, 47, 48, 49, 50]) ⟨[(0, sp p), (53, sp p), (64, sp p), (75, sp p), (82, sp p), (89, sp p), (48, (pO gr (0 + i * 5))), (49, (pO gr (0 + i * 5))), (50, (pO gr (0 + i * 5))), (51, (pO gr (0 + i * 5))), (52, (pO gr (0 + i * 5))), (57, avS (xO l i).key), (61, avS (xO l i).key), (68, avS (xO l i).product), (72, avS (xO l i).product), (79, avI (xO l i).count), (86, avI (xO l i).ready), (93, avI (xO l i).due), (97, avI (xO l i).due), (5, .v (.slice (some ⟨gr, 0, none⟩) l.length cap)), (62, (iO 4 [avS (xO l i).key, avS (xO l i).key, avS ⟨#[]⟩, avS ⟨#[111, 97]⟩])), (63, avS r63), (73, (iO 4 [avS (xO l i).product, avS (xO l i).product, avS ⟨#[122, 122]⟩, avS ⟨#[]⟩])), (87, (iO 3 [avI (xO l i).ready, avI (-1), avI 345686400000])), (98, (iO 3 [avI (xO l i).due, avI (xO l i).due, avI 345686400000]))], [.box gr ⟨rowL l, 104, cap * 5⟩], k + 1 + 4 * q + 1 + 1 + 1⟩ := by
          intro r63 hr63
          rw [hF]
          refine VA.all (rs := [26, 32]) (by decide +kernel) (by decide) ?_
          refine ⟨⟨_, rfl, .inl rfl, ?_⟩, ⟨_, rfl, .inl rfl, ?_⟩, trivial⟩
          ·
            refine OpE.callT' (k + 1 + 4 * q + 1 + 1 + 1) rfl rfl hB rfl Tryz.call82 rfl (some_T 1000 (by rfl) (by decide) (by decide) (AllS.cons (hok.getD i).2.1 (AllS.cons (hok.getD i).2.1 (AllS.cons (by decide) (AllS.cons (by decide) AllS.nil))))) (by omega) ?_
            rintro _ ⟨r74, hr74, rfl⟩
            have hh := hS10 r63 hr63 r74 hr74
            rw [hF] at hh
            exact VA.to hh (by decide +kernel) (Le.mk hB [0] ⟨rfl, rfl, rfl, rfl, rfl, rfl, rfl, rfl, rfl, rfl, rfl, rfl, rfl, rfl, rfl, rfl, rfl, rfl, rfl, rfl, rfl, rfl, rfl, rfl, rfl, rfl, trivial⟩ rfl rfl (Nat.le_refl _))
          ·
            refine OpE.buildSlice (zc := #[.int .i64 0, .int .i64 0, .int .i64 0]) rfl hB rfl Tryz.underlying22 Tryz.sizeOf3 Tryz.zeroValue3 (by decide) (by decide) (by kernel_rfl) rfl rfl ?_
            have hh := hS11 r63 hr63
            rw [hF] at hh
            exact VA.to hh (by decide +kernel) (Le.mk hB [0] ⟨rfl, rfl, rfl, rfl, rfl, rfl, rfl, rfl, rfl, rfl, rfl, rfl, rfl, rfl, rfl, rfl, rfl, rfl, rfl, rfl, rfl, rfl, rfl, rfl, rfl, rfl, trivial⟩ rfl rfl (Nat.le_refl _))
        have hS18 : ∀ (r63 : ByteArray) (hr63 : r63.size ≤ 1000 ∧ r63 ≠ ozK), F 20 (lstB 67 [0, 1, 2, 3, 4, 5, 6, 7, 8, 9, 10, 11, 12, 13, 14, 15, 16, 17, 18, 19, 20, 21, 22, 23, 24, 27, 28, 29, 30, 31, 32, 34, 35, 36, 37, 38, 39, 41, 42, 43, 44, 45, 46, 47, 48, 49, 50]) ⟨[(0, sp p), (53, sp p), (64, sp p), (75, sp p), (82, sp p), (89, sp p), (48, (pO gr (0 + i * 5))), (49, (pO gr (0 + i * 5))), (50, (pO gr (0 + i * 5))), (51, (pO gr (0 + i * 5))), (52, (pO gr (0 + i * 5))), (57, avS (xO l i).key), (61, avS (xO l i).key), (68, avS (xO l i).product), (72, avS (xO l i).product), (79, avI (xO l i).count), (86, avI (xO l i).ready), (93, avI (xO l i).due), (97, avI (xO l i).due), (5, .v (.slice (some ⟨gr, 0, none⟩) l.length cap)), (62, (iO 4 [avS (xO l i).key, avS (xO l i).key, avS ⟨#[]⟩, avS ⟨#[111, 97]⟩])), (63, avS r63), (80, (iO 3 [avI (xO l i).count, avI 0, avI 100001])), (87, (iO 3 [avI (xO l i).ready, avI (-1), avI 345686400000])), (98, (iO 3 [avI (xO l i).due, avI (xO l i).due, avI 345686400000]))], [.box gr ⟨rowL l, 104, cap * 5⟩], k + 1 + 4 * q + 1 + 1 + 1⟩ := by
          intro r63 hr63
          rw [hF]
          refine VA.all (rs := [25]) (by decide +kernel) (by decide) ?_
          refine ⟨⟨_, rfl, .inl rfl, ?_⟩, trivial⟩
          refine OpE.buildSlice (zc := #[.string ⟨#[]⟩, .string ⟨#[]⟩, .string ⟨#[]⟩, .string ⟨#[]⟩]) rfl hB rfl Tryz.underlying29 Tryz.sizeOf9 Tryz.zeroValue9 (by decide) (by decide) (by kernel_rfl) rfl rfl ?_
          have hh := hS11 r63 hr63
          rw [hF] at hh
          exact VA.to hh (by decide +kernel) (Le.mk hB [0] ⟨rfl, rfl, rfl, rfl, rfl, rfl, rfl, rfl, rfl, rfl, rfl, rfl, rfl, rfl, rfl, rfl, rfl, rfl, rfl, rfl, rfl, rfl, rfl, rfl, rfl, rfl, trivial⟩ rfl rfl (Nat.le_refl _))
        have hS19 : F 20 (lstB 67 [0, 1, 2, 3, 4, 5, 6, 7, 8, 9, 10, 11, 12, 13, 14, 16, 17, 18, 19, 20, 21, 22, 23, 24, 25, 27, 28, 29, 30, 31, 32, 34, 35, 36, 37, 38, 39, 41, 42, 43, 44, 45, 46, 47, 48, 49, 50]) ⟨[(0, sp p), (53, sp p), (64, sp p), (75, sp p), (82, sp p), (89, sp p), (48, (pO gr (0 + i * 5))), (49, (pO gr (0 + i * 5))), (50, (pO gr (0 + i * 5))), (51, (pO gr (0 + i * 5))), (52, (pO gr (0 + i * 5))), (57, avS (xO l i).key), (61, avS (xO l i).key), (68, avS (xO l i).product), (72, avS (xO l i).product), (79, avI (xO l i).count), (86, avI (xO l i).ready), (93, avI (xO l i).due), (97, avI (xO l i).due), (5, .v (.slice (some ⟨gr, 0, none⟩) l.length cap)), (62, (iO 4 [avS (xO l i).key, avS (xO l i).key, avS ⟨#[]⟩, avS ⟨#[111, 97]⟩])), (73, (iO 4 [avS (xO l i).product, avS (xO l i).product, avS ⟨#[122, 122]⟩, avS ⟨#[]⟩])), (80, (iO 3 [avI (xO l i).count, avI 0, avI 100001])), (87, (iO 3 [avI (xO l i).ready, avI (-1), avI 345686400000])), (98, (iO 3 [avI (xO l i).due, avI (xO l i).due, avI 345686400000]))], [.box gr ⟨rowL l, 104, cap * 5⟩], k + 1 + 4 * q + 1 + 1⟩ := by
          rw [hF]
          refine VA.all (rs := [15]) (by decide +kernel) (by decide) ?_
          refine ⟨⟨_, rfl, .inl rfl, ?_⟩, trivial⟩
          refine OpE.callT' (k + 1 + 4 * q + 1 + 1) rfl rfl hB rfl Tryz.call82 rfl (some_Q (by rfl) (by decide) (by decide) (AllQ.cons ⟨(hok.getD i).1, (hok.getD i).2.2⟩ (AllQ.cons ⟨(hok.getD i).1, (hok.getD i).2.2⟩ (AllQ.cons (by decide) (AllQ.cons (by decide) AllQ.nil))))) (by omega) ?_
          rintro _ ⟨r63, hr63, rfl⟩
          have hh := hS11 r63 hr63
          rw [hF] at hh
          exact VA.to hh (by decide +kernel) (Le.mk hB [0] ⟨rfl, rfl, rfl, rfl, rfl, rfl, rfl, rfl, rfl, rfl, rfl, rfl, rfl, rfl, rfl, rfl, rfl, rfl, rfl, rfl, rfl, rfl, rfl, rfl, rfl, rfl, trivial⟩ rfl rfl (Nat.le_refl _))
        have hS20 : ∀ (r63 : ByteArray) (hr63 : r63.size ≤ 1000 ∧ r63 ≠ ozK) (r74 : ByteArray) (hr74 : r74.size ≤ 1000), F 21 (lstB 67 [0, 1, 2, 3, 4, 5, 6, 7, 8, 9, 10, 11, 12, 13, 14, 15, 16, 17, 18, 19, 20, 21, 22, 23, 24, 25, 26, 27, 28, 29, 30, 31, 34, 35, 36, 37, 38, 41, 42, 43, 44, 45, 46, 47, 48, 49]) ⟨[(0, sp p), (53, sp p), (64, sp p), (75, sp p), (82, sp p), (89, sp p), (48, (pO gr (0 + i * 5))), (49, (pO gr (0 + i * 5))), (50, (pO gr (0 + i * 5))), (51, (pO gr (0 + i * 5))), (52, (pO gr (0 + i * 5))), (57, avS (xO l i).key), (61, avS (xO l i).key), (68, avS (xO l i).product), (72, avS (xO l i).product), (79, avI (xO l i).count), (86, avI (xO l i).ready), (93, avI (xO l i).due), (97, avI (xO l i).due), (5, .v (.slice (some ⟨gr, 0, none⟩) l.length cap)), (62, (iO 4 [avS (xO l i).key, avS (xO l i).key, avS ⟨#[]⟩, avS ⟨#[111, 97]⟩])), (63, avS r63), (73, (iO 4 [avS (xO l i).product, avS (xO l i).product, avS ⟨#[122, 122]⟩, avS ⟨#[]⟩])), (74, avS r74)], [.box gr ⟨rowL l, 104, cap * 5⟩], k + 1 + 4 * q + 1 + 1 + 1 + 1⟩ := by
          intro r63 hr63 r74 hr74
          rw [hF]
          refine VA.all (rs := [32, 39, 50]) (by decide +kernel) (by decide) ?_
          refine ⟨⟨_, rfl, .inl rfl, ?_⟩, ⟨_, rfl, .inl rfl, ?_⟩, ⟨_, rfl, .inl rfl, ?_⟩, trivial⟩
          ·
            refine OpE.buildSlice (zc := #[.int .i64 0, .int .i64 0, .int .i64 0]) rfl hB rfl Tryz.underlying22 Tryz.sizeOf3 Tryz.zeroValue3 (by decide) (by decide) (by kernel_rfl) rfl rfl ?_
            have hh := hS12 r63 hr63 r74 hr74
            rw [hF] at hh
            exact VA.to hh (by decide +kernel) (Le.mk hB [0] ⟨rfl, rfl, rfl, rfl, rfl, rfl, rfl, rfl, rfl, rfl, rfl, rfl, rfl, rfl, rfl, rfl, rfl, rfl, rfl, rfl, rfl, rfl, rfl, rfl, rfl, trivial⟩ rfl rfl (Nat.le_refl _))
          ·
            refine OpE.buildSlice (zc := #[.int .i64 0, .int .i64 0, .int .i64 0]) rfl hB rfl Tryz.underlying22 Tryz.sizeOf3 Tryz.zeroValue3 (by decide) (by decide) (by kernel_rfl) rfl rfl ?_
            have hh := hS13 r63 hr63 r74 hr74
            rw [hF] at hh
            exact VA.to hh (by decide +kernel) (Le.mk hB [0] ⟨rfl, rfl, rfl, rfl, rfl, rfl, rfl, rfl, rfl, rfl, rfl, rfl, rfl, rfl, rfl, rfl, rfl, rfl, rfl, rfl, rfl, rfl, rfl, rfl, rfl, trivial⟩ rfl rfl (Nat.le_refl _))
          ·
            refine OpE.buildSlice (zc := #[.int .i64 0, .int .i64 0, .int .i64 0]) rfl hB rfl Tryz.underlying22 Tryz.sizeOf3 Tryz.zeroValue3 (by decide) (by decide) (by kernel_rfl) rfl rfl ?_
            have hh := hS14 r63 hr63 r74 hr74
            rw [hF] at hh
            exact VA.to hh (by decide +kernel) (Le.mk hB [0] ⟨rfl, rfl, rfl, rfl, rfl, rfl, rfl, rfl, rfl, rfl, rfl, rfl, rfl, rfl, rfl, rfl, rfl, rfl, rfl, rfl, rfl, rfl, rfl, rfl, rfl, trivial⟩ rfl rfl (Nat.le_refl _))
        have hS21 : ∀ (r63 : ByteArray) (hr63 : r63.size ≤ 1000 ∧ r63 ≠ ozK), F 21 (lstB 67 [0, 1, 2, 3, 4, 5, 6, 7, 8, 9, 10, 11, 12, 13, 14, 15, 16, 17, 18, 19, 20, 21, 22, 23, 24, 25, 27, 28, 29, 30, 31, 32, 34, 35, 36, 37, 38, 41, 42, 43, 44, 45, 46, 47, 48, 49]) ⟨[(0, sp p), (53, sp p), (64, sp p), (75, sp p), (82, sp p), (89, sp p), (48, (pO gr (0 + i * 5))), (49, (pO gr (0 + i * 5))), (50, (pO gr (0 + i * 5))), (51, (pO gr (0 + i * 5))), (52, (pO gr (0 + i * 5))), (57, avS (xO l i).key), (61, avS (xO l i).key), (68, avS (xO l i).product), (72, avS (xO l i).product), (79, avI (xO l i).count), (86, avI (xO l i).ready), (93, avI (xO l i).due), (97, avI (xO l i).due), (5, .v (.slice (some ⟨gr, 0, none⟩) l.length cap)), (62, (iO 4 [avS (xO l i).key, avS (xO l i).key, avS ⟨#[]⟩, avS ⟨#[111, 97]⟩])), (63, avS r63), (73, (iO 4 [avS (xO l i).product, avS (xO l i).product, avS ⟨#[122, 122]⟩, avS ⟨#[]⟩])), (80, (iO 3 [avI (xO l i).count, avI 0, avI 100001]))], [.box gr ⟨rowL l, 104, cap * 5⟩], k + 1 + 4 * q + 1 + 1 + 1⟩ := by
          intro r63 hr63
          rw [hF]
          refine VA.all (rs := [26, 39, 50]) (by decide +kernel) (by decide) ?_
          refine ⟨⟨_, rfl, .inl rfl, ?_⟩, ⟨_, rfl, .inl rfl, ?_⟩, ⟨_, rfl, .inl rfl, ?_⟩, trivial⟩
          ·
            refine OpE.callT' (k + 1 + 4 * q + 1 + 1 + 1) rfl rfl hB rfl Tryz.call82 rfl (some_T 1000 (by rfl) (by decide) (by decide) (AllS.cons (hok.getD i).2.1 (AllS.cons (hok.getD i).2.1 (AllS.cons (by decide) (AllS.cons (by decide) AllS.nil))))) (by omega) ?_
            rintro _ ⟨r74, hr74, rfl⟩
            have hh := hS12 r63 hr63 r74 hr74
            rw [hF] at hh
            exact VA.to hh (by decide +kernel) (Le.mk hB [0] ⟨rfl, rfl, rfl, rfl, rfl, rfl, rfl, rfl, rfl, rfl, rfl, rfl, rfl, rfl, rfl, rfl, rfl, rfl, rfl, rfl, rfl, rfl, rfl, rfl, rfl, trivial⟩ rfl rfl (Nat.le_refl _))
          ·
            refine OpE.buildSlice (zc := #[.int .i64 0, .int .i64 0, .int .i64 0]) rfl hB rfl Tryz.underlying22 Tryz.sizeOf3 Tryz.zeroValue3 (by decide) (by decide) (by kernel_rfl) rfl rfl ?_
            have hh := hS15 r63 hr63
            rw [hF] at hh
            exact VA.to hh (by decide +kernel) (Le.mk hB [0] ⟨rfl, rfl, rfl, rfl, rfl, rfl, rfl, rfl, rfl, rfl, rfl, rfl, rfl, rfl, rfl, rfl, rfl, rfl, rfl, rfl, rfl, rfl, rfl, rfl, rfl, trivial⟩ rfl rfl (Nat.le_refl _))
          ·
            refine OpE.buildSlice (zc := #[.int .i64 0, .int .i64 0, .int .i64 0]) rfl hB rfl Tryz.underlying22 Tryz.sizeOf3 Tryz.zeroValue3 (by decide) (by decide) (by kernel_rfl) rfl rfl ?_
            have hh := hS16 r63 hr63
            rw [hF] at hh
            exact VA.to hh (by decide +kernel) (Le.mk hB [0] ⟨rfl, rfl, rfl, rfl, rfl, rfl, rfl, rfl, rfl, rfl, rfl, rfl, rfl, rfl, rfl, rfl, rfl, rfl, rfl, rfl, rfl, rfl, rfl, rfl, rfl, trivial⟩ rfl rfl (Nat.le_refl _))
        have hS22 : ∀ (r63 : ByteArray) (hr63 : r63.size ≤ 1000 ∧ r63 ≠ ozK), F 21 (lstB 67 [0, 1, 2, 3, 4, 5, 6, 7, 8, 9, 10, 11, 12, 13, 14, 15, 16, 17, 18, 19, 20, 21, 22, 23, 24, 25, 27, 28, 29, 30, 31, 34, 35, 36, 37, 38, 39, 41, 42, 43, 44, 45, 46, 47, 48, 49]) ⟨[(0, sp p), (53, sp p), (64, sp p), (75, sp p), (82, sp p), (89, sp p), (48, (pO gr (0 + i * 5))), (49, (pO gr (0 + i * 5))), (50, (pO gr (0 + i * 5))), (51, (pO gr (0 + i * 5))), (52, (pO gr (0 + i * 5))), (57, avS (xO l i).key), (61, avS (xO l i).key), (68, avS (xO l i).product), (72, avS (xO l i).product), (79, avI (xO l i).count), (86, avI (xO l i).ready), (93, avI (xO l i).due), (97, avI (xO l i).due), (5, .v (.slice (some ⟨gr, 0, none⟩) l.length cap)), (62, (iO 4 [avS (xO l i).key, avS (xO l i).key, avS ⟨#[]⟩, avS ⟨#[111, 97]⟩])), (63, avS r63), (73, (iO 4 [avS (xO l i).product, avS (xO l i).product, avS ⟨#[122, 122]⟩, avS ⟨#[]⟩])), (87, (iO 3 [avI (xO l i).ready, avI (-1), avI 345686400000]))], [.box gr ⟨rowL l, 104, cap * 5⟩], k + 1 + 4 * q + 1 + 1 + 1⟩ := by
          intro r63 hr63
          rw [hF]
          refine VA.all (rs := [26, 32, 50]) (by decide +kernel) (by decide) ?_
          refine ⟨⟨_, rfl, .inl rfl, ?_⟩, ⟨_, rfl, .inl rfl, ?_⟩, ⟨_, rfl, .inl rfl, ?_⟩, trivial⟩
          ·
            refine OpE.callT' (k + 1 + 4 * q + 1 + 1 + 1) rfl rfl hB rfl Tryz.call82 rfl (some_T 1000 (by rfl) (by decide) (by decide) (AllS.cons (hok.getD i).2.1 (AllS.cons (hok.getD i).2.1 (AllS.cons (by decide) (AllS.cons (by decide) AllS.nil))))) (by omega) ?_
            rintro _ ⟨r74, hr74, rfl⟩
            have hh := hS13 r63 hr63 r74 hr74
            rw [hF] at hh
            exact VA.to hh (by decide +kernel) (Le.mk hB [0] ⟨rfl, rfl, rfl, rfl, rfl, rfl, rfl, rfl, rfl, rfl, rfl, rfl, rfl, rfl, rfl, rfl, rfl, rfl, rfl, rfl, rfl, rfl, rfl, rfl, rfl, trivial⟩ rfl rfl (Nat.le_refl _))
          ·
            refine OpE.buildSlice (zc := #[.int .i64 0, .int .i64 0, .int .i64 0]) rfl hB rfl Tryz.underlying22 Tryz.sizeOf3 Tryz.zeroValue3 (by decide) (by decide) (by kernel_rfl) rfl rfl ?_
            have hh := hS15 r63 hr63
            rw [hF] at hh
            exact VA.to hh (by decide +kernel) (Le.mk hB [0] ⟨rfl, rfl, rfl, rfl, rfl, rfl, rfl, rfl, rfl, rfl, rfl, rfl, rfl, rfl, rfl, rfl, rfl, rfl, rfl, rfl, rfl, rfl, rfl, rfl, rfl, trivial⟩ rfl rfl (Nat.le_refl _))
          ·
            refine OpE.buildSlice (zc := #[.int .i64 0, .int .i64 0, .int .i64 0]) rfl hB rfl Tryz.underlying22 Tryz.sizeOf3 Tryz.zeroValue3 (by decide) (by decide) (by kernel_rfl) rfl rfl ?_
            have hh := hS17 r63 hr63
            rw [hF] at hh
            exact VA.to hh (by decide +kernel) (Le.mk hB [0] ⟨rfl, rfl, rfl, rfl, rfl, rfl, rfl, rfl, rfl, rfl, rfl, rfl, rfl, rfl, rfl, rfl, rfl, rfl, rfl, rfl, rfl, rfl, rfl, rfl, rfl, trivial⟩ rfl rfl (Nat.le_refl _))
        have hS23 : ∀ (r63 : ByteArray) (hr63 : r63.size ≤ 1000 ∧ r63 ≠ ozK), F 21 (lstB 67 [0, 1, 2, 3, 4, 5, 6, 7, 8, 9, 10, 11, 12, 13, 14, 15, 16, 17, 18, 19, 20, 21, 22, 23, 24, 25, 27, 28, 29, 30, 31, 34, 35, 36, 37, 38, 41, 42, 43, 44, 45, 46, 47, 48, 49, 50]) ⟨[(0, sp p), (53, sp p), (64, sp p), (75, sp p), (82, sp p), (89, sp p), (48, (pO gr (0 + i * 5))), (49, (pO gr (0 + i * 5))), (50, (pO gr (0 + i * 5))), (51, (pO gr (0 + i * 5))), (52, (pO gr (0 + i * 5))), (57, avS (xO l i).key), (61, avS (xO l i).key), (68, avS (xO l i).product), (72, avS (xO l i).product), (79, avI (xO l i).count), (86, avI (xO l i).ready), (93, avI (xO l i).due), (97, avI (xO l i).due), (5, .v (.slice (some ⟨gr, 0, none⟩) l.length cap)), (62, (iO 4 [avS (xO l i).key, avS (xO l i).key, avS ⟨#[]⟩, avS ⟨#[111, 97]⟩])), (63, avS r63), (73, (iO 4 [avS (xO l i).product, avS (xO l i).product, avS ⟨#[122, 122]⟩, avS ⟨#[]⟩])), (98, (iO 3 [avI (xO l i).due, avI (xO l i).due, avI 345686400000]))], [.box gr ⟨rowL l, 104, cap * 5⟩], k + 1 + 4 * q + 1 + 1 + 1⟩ := by
          intro r63 hr63
          rw [hF]
          refine VA.all (rs := [26, 32, 39]) (by decide +kernel) (by decide) ?_
          refine ⟨⟨_, rfl, .inl rfl, ?_⟩, ⟨_, rfl, .inl rfl, ?_⟩, ⟨_, rfl, .inl rfl, ?_⟩, trivial⟩
          ·
            refine OpE.callT' (k + 1 + 4 * q + 1 + 1 + 1) rfl rfl hB rfl Tryz.call82 rfl (some_T 1000 (by rfl) (by decide) (by decide) (AllS.cons (hok.getD i).2.1 (AllS.cons (hok.getD i).2.1 (AllS.cons (by decide) (AllS.cons (by decide) AllS.nil))))) (by omega) ?_
            rintro _ ⟨r74, hr74, rfl⟩
            have hh := hS14 r63 hr63 r74 hr74
            rw [hF] at hh
            exact VA.to hh (by decide +kernel) (Le.mk hB [0] ⟨rfl, rfl, rfl, rfl, rfl, rfl, rfl, rfl, rfl, rfl, rfl, rfl, rfl, rfl, rfl, rfl, rfl, rfl, rfl, rfl, rfl, rfl, rfl, rfl, rfl, trivial⟩ rfl rfl (Nat.le_refl _))
          ·
            refine OpE.buildSlice (zc := #[.int .i64 0, .int .i64 0, .int .i64 0]) rfl hB rfl Tryz.underlying22 Tryz.sizeOf3 Tryz.zeroValue3 (by decide) (by decide) (by kernel_rfl) rfl rfl ?_
            have hh := hS16 r63 hr63
            rw [hF] at hh
            exact VA.to hh (by decide +kernel) (Le.mk hB [0] ⟨rfl, rfl, rfl, rfl, rfl, rfl, rfl, rfl, rfl, rfl, rfl, rfl, rfl, rfl, rfl, rfl, rfl, rfl, rfl, rfl, rfl, rfl, rfl, rfl, rfl, trivial⟩ rfl rfl (Nat.le_refl _))
          ·
            refine OpE.buildSlice (zc := #[.int .i64 0, .int .i64 0, .int .i64 0]) rfl hB rfl Tryz.underlying22 Tryz.sizeOf3 Tryz.zeroValue3 (by decide) (by decide) (by kernel_rfl) rfl rfl ?_
            have hh := hS17 r63 hr63
            rw [hF] at hh
            exact VA.to hh (by decide +kernel) (Le.mk hB [0] ⟨rfl, rfl, rfl, rfl, rfl, rfl, rfl, rfl, rfl, rfl, rfl, rfl, rfl, rfl, rfl, rfl, rfl, rfl, rfl, rfl, rfl, rfl, rfl, rfl, rfl, trivial⟩ rfl rfl (Nat.le_refl _))
        have hS24 : ∀ (r63 : ByteArray) (hr63 : r63.size ≤ 1000 ∧ r63 ≠ ozK), F 21 (lstB 67 [0, 1, 2, 3, 4, 5, 6, 7, 8, 9, 10, 11, 12, 13, 14, 15, 16, 17, 18, 19, 20, 21, 22, 23, 24, 27, 28, 29, 30, 31, 32, 34, 35, 36, 37, 38, 39, 41, 42, 43, 44, 45, 46, 47, 48, 49]) ⟨[(0, sp p), (53, sp p), (64, sp p), (75, sp p), (82, sp p), (89, sp p), (48, (pO gr (0 + i * 5))), (49, (pO gr (0 + i * 5))), (50, (pO gr (0 + i * 5))), (51, (pO gr (0 + i * 5))), (52, (pO gr (0 + i * 5))), (57, avS (xO l i).key), (61, avS (xO l i).key), (68, avS (xO l i).product), (72, avS (xO l i).product), (79, avI (xO l i).count), (86, avI (xO l i).ready), (93, avI (xO l i).due), (97, avI (xO l i).due), (5, .v (.slice (some ⟨gr, 0, none⟩) l.length cap)), (62, (iO 4 [avS (xO l i).key, avS (xO l i).key, avS ⟨#[]⟩, avS ⟨#[111, 97]⟩])), (63, avS r63), (80, (iO 3 [avI (xO l i).count, avI 0, avI 100001])), (87, (iO 3 [avI (xO l i).ready, avI (-1), avI 345686400000]))], [.box gr ⟨rowL l, 104, cap * 5⟩], k + 1 + 4 * q + 1 + 1 + 1⟩ := by
          intro r63 hr63
          rw [hF]
          refine VA.all (rs := [25, 50]) (by decide +kernel) (by decide) ?_
          refine ⟨⟨_, rfl, .inl rfl, ?_⟩, ⟨_, rfl, .inl rfl, ?_⟩, trivial⟩
          ·
            refine OpE.buildSlice (zc := #[.string ⟨#[]⟩, .string ⟨#[]⟩, .string ⟨#[]⟩, .string ⟨#[]⟩]) rfl hB rfl Tryz.underlying29 Tryz.sizeOf9 Tryz.zeroValue9 (by decide) (by decide) (by kernel_rfl) rfl rfl ?_
            have hh := hS15 r63 hr63
            rw [hF] at hh
            exact VA.to hh (by decide +kernel) (Le.mk hB [0] ⟨rfl, rfl, rfl, rfl, rfl, rfl, rfl, rfl, rfl, rfl, rfl, rfl, rfl, rfl, rfl, rfl, rfl, rfl, rfl, rfl, rfl, rfl, rfl, rfl, rfl, trivial⟩ rfl rfl (Nat.le_refl _))
          ·
            refine OpE.buildSlice (zc := #[.int .i64 0, .int .i64 0, .int .i64 0]) rfl hB rfl Tryz.underlying22 Tryz.sizeOf3 Tryz.zeroValue3 (by decide) (by decide) (by kernel_rfl) rfl rfl ?_
            have hh := hS18 r63 hr63
            rw [hF] at hh
            exact VA.to hh (by decide +kernel) (Le.mk hB [0] ⟨rfl, rfl, rfl, rfl, rfl, rfl, rfl, rfl, rfl, rfl, rfl, rfl, rfl, rfl, rfl, rfl, rfl, rfl, rfl, rfl, rfl, rfl, rfl, rfl, rfl, trivial⟩ rfl rfl (Nat.le_refl _))
        have hS25 : ∀ (r63 : ByteArray) (hr63 : r63.size ≤ 1000 ∧ r63 ≠ ozK), F 21 (lstB 67 [0, 1, 2, 3, 4, 5, 6, 7, 8, 9, 10, 11, 12, 13, 14, 15, 16, 17, 18, 19, 20, 21, 22, 23, 24, 27, 28, 29, 30, 31, 32, 34, 35, 36, 37, 38, 41, 42, 43, 44, 45, 46, 47, 48, 49, 50]) ⟨[(0, sp p), (53, sp p), (64, sp p), (75, sp p), (82, sp p), (89, sp p), (48, (pO gr (0 + i * 5))), (49, (pO gr (0 + i * 5))), (50, (pO gr (0 + i * 5))), (51, (pO gr (0 + i * 5))), (52, (pO gr (0 + i * 5))), (57, avS (xO l i).key), (61, avS (xO l i).key), (68, avS (xO l i).product), (72, avS (xO l i).product), (79, avI (xO l i).count), (86, avI (xO l i).ready), (93, avI (xO l i).due), (97, avI (xO l i).due), (5, .v (.slice (some ⟨gr, 0, none⟩) l.length cap)), (62, (iO 4 [avS (xO l i).key, avS (xO l i).key, avS ⟨#[]⟩, avS ⟨#[111, 97]⟩])), (63, avS r63), (80, (iO 3 [avI (xO l i).count, avI 0, avI 100001])), (98, (iO 3 [avI (xO l i).due, avI (xO l i).due, avI 345686400000]))], [.box gr ⟨rowL l, 104, cap * 5⟩], k + 1 + 4 * q + 1 + 1 + 1⟩ := by
          intro r63 hr63
          rw [hF]
          refine VA.all (rs := [25, 39]) (by decide +kernel) (by decide) ?_
          refine ⟨⟨_, rfl, .inl rfl, ?_⟩, ⟨_, rfl, .inl rfl, ?_⟩, trivial⟩
          ·
            refine OpE.buildSlice (zc := #[.string ⟨#[]⟩, .string ⟨#[]⟩, .string ⟨#[]⟩, .string ⟨#[]⟩]) rfl hB rfl Tryz.underlying29 Tryz.sizeOf9 Tryz.zeroValue9 (by decide) (by decide) (by kernel_rfl) rfl rfl ?_
            have hh := hS16 r63 hr63
            rw [hF] at hh
            exact VA.to hh (by decide +kernel) (Le.mk hB [0] ⟨rfl, rfl, rfl, rfl, rfl, rfl, rfl, rfl, rfl, rfl, rfl, rfl, rfl, rfl, rfl, rfl, rfl, rfl, rfl, rfl, rfl, rfl, rfl, rfl, rfl, trivial⟩ rfl rfl (Nat.le_refl _))
          ·
            refine OpE.buildSlice (zc := #[.int .i64 0, .int .i64 0, .int .i64 0]) rfl hB rfl Tryz.underlying22 Tryz.sizeOf3 Tryz.zeroValue3 (by decide) (by decide) (by kernel_rfl) rfl rfl ?_
            have hh := hS18 r63 hr63
            rw [hF] at hh
            exact VA.to hh (by decide +kernel) (Le.mk hB [0] ⟨rfl, rfl, rfl, rfl, rfl, rfl, rfl, rfl, rfl, rfl, rfl, rfl, rfl, rfl, rfl, rfl, rfl, rfl, rfl, rfl, rfl, rfl, rfl, rfl, rfl, trivial⟩ rfl rfl (Nat.le_refl _))
        have hS26 : ∀ (r63 : ByteArray) (hr63 : r63.size ≤ 1000 ∧ r63 ≠ ozK), F 21 (lstB 67 [0, 1, 2, 3, 4, 5, 6, 7, 8, 9, 10, 11, 12, 13, 14, 15, 16, 17, 18, 19, 20, 21, 22, 23, 24, 27, 28, 29, 30, 31, 34, 35, 36, 37, 38, 39, 41, 42, 43, 44, 45, 46, 47, 48, 49, 50]) ⟨[(0, sp p), (53, sp p), (64, sp p), (75, sp p), (82, sp p), (89, sp p), (48, (pO gr (0 + i * 5))), (49, (pO gr (0 + i * 5))), (50, (pO gr (0 + i * 5))), (51, (pO gr (0 + i * 5))), (52, (pO gr (0 + i * 5))), (57, avS (xO l i).key), (61, avS (xO l i).key), (68, avS (xO l i).product), (72, avS (xO l i).product), (79, avI (xO l i).count), (86, avI (xO l i).ready), (93, avI (xO l i).due), (97, avI (xO l i).due), (5, .v (.slice (some ⟨gr, 0, none⟩) l.length cap)), (62, (iO 4 [avS (xO l i).key, avS (xO l i).key, avS ⟨#[]⟩, avS ⟨#[111, 97]⟩])), (63, avS r63), (87, (iO 3 [avI (xO l i).ready, avI (-1), avI 345686400000])), (98, (iO 3 [avI (xO l i).due, avI (xO l i).due, avI 345686400000]))], [.box gr ⟨rowL l, 104, cap * 5⟩], k + 1 + 4 * q + 1 + 1 + 1⟩ := by
          intro r63 hr63
          rw [hF]
          refine VA.all (rs := [25, 32]) (by decide +kernel) (by decide) ?_
          refine ⟨⟨_, rfl, .inl rfl, ?_⟩, ⟨_, rfl, .inl rfl, ?_⟩, trivial⟩
          ·
            refine OpE.buildSlice (zc := #[.string ⟨#[]⟩, .string ⟨#[]⟩, .string ⟨#[]⟩, .string ⟨#[]⟩]) rfl hB rfl Tryz.underlying29 Tryz.sizeOf9 Tryz.zeroValue9 (by decide) (by decide) (by kernel_rfl) rfl rfl ?_
            have hh := hS17 r63 hr63
            rw [hF] at hh
            exact VA.to hh (by decide +kernel) (Le.mk hB [0] ⟨rfl, rfl, rfl, rfl, rfl, rfl, rfl, rfl, rfl, rfl, rfl, rfl, rfl, rfl, rfl, rfl, rfl, rfl, rfl, rfl, rfl, rfl, rfl, rfl, rfl, trivial⟩ rfl rfl (Nat.le_refl _))
          ·
            refine OpE.buildSlice (zc := #[.int .i64 0, .int .i64 0, .int .i64 0]) rfl hB rfl Tryz.underlying22 Tryz.sizeOf3 Tryz.zeroValue3 (by decide) (by decide) (by kernel_rfl) rfl rfl ?_
            have hh := hS18 r63 hr63
            rw [hF] at hh
            exact VA.to hh (by decide +kernel) (Le.mk hB [0] ⟨rfl, rfl, rfl, rfl, rfl, rfl, rfl, rfl, rfl, rfl, rfl, rfl, rfl, rfl, rfl, rfl, rfl, rfl, rfl, rfl, rfl, rfl, rfl, rfl, rfl, trivial⟩ rfl rfl (Nat.le_refl _))
        have hS27 : F 21 (lstB 67 [0, 1, 2, 3, 4, 5, 6, 7, 8, 9, 10, 11, 12, 13, 14, 16, 17, 18, 19, 20, 21, 22, 23, 24, 25, 27, 28, 29, 30, 31, 32, 34, 35, 36, 37, 38, 39, 41, 42, 43, 44, 45, 46, 47, 48, 49]) ⟨[(0, sp p), (53, sp p), (64, sp p), (75, sp p), (82, sp p), (89, sp p), (48, (pO gr (0 + i * 5))), (49, (pO gr (0 + i * 5))), (50, (pO gr (0 + i * 5))), (51, (pO gr (0 + i * 5))), (52, (pO gr (0 + i * 5))), (57, avS (xO l i).key), (61, avS (xO l i).key), (68, avS (xO l i).product), (72, avS (xO l i).product), (79, avI (xO l i).count), (86, avI (xO l i).ready), (93, avI (xO l i).due), (97, avI (xO l i).due), (5, .v (.slice (some ⟨gr, 0, none⟩) l.length cap)), (62, (iO 4 [avS (xO l i).key, avS (xO l i).key, avS ⟨#[]⟩, avS ⟨#[111, 97]⟩])), (73, (iO 4 [avS (xO l i).product, avS (xO l i).product, avS ⟨#[122, 122]⟩, avS ⟨#[]⟩])), (80, (iO 3 [avI (xO l i).count, avI 0, avI 100001])), (87, (iO 3 [avI (xO l i).ready, avI (-1), avI 345686400000]))], [.box gr ⟨rowL l, 104, cap * 5⟩], k + 1 + 4 * q + 1 + 1⟩ := by
          rw [hF]
          refine VA.all (rs := [15, 50]) (by decide +kernel) (by decide) ?_
          refine ⟨⟨_, rfl, .inl rfl, ?_⟩, ⟨_, rfl, .inl rfl, ?_⟩, trivial⟩
          ·
            refine OpE.callT' (k + 1 + 4 * q + 1 + 1) rfl rfl hB rfl Tryz.call82 rfl (some_Q (by rfl) (by decide) (by decide) (AllQ.cons ⟨(hok.getD i).1, (hok.getD i).2.2⟩ (AllQ.cons ⟨(hok.getD i).1, (hok.getD i).2.2⟩ (AllQ.cons (by decide) (AllQ.cons (by decide) AllQ.nil))))) (by omega) ?_
            rintro _ ⟨r63, hr63, rfl⟩
            have hh := hS15 r63 hr63
            rw [hF] at hh
            exact VA.to hh (by decide +kernel) (Le.mk hB [0] ⟨rfl, rfl, rfl, rfl, rfl, rfl, rfl, rfl, rfl, rfl, rfl, rfl, rfl, rfl, rfl, rfl, rfl, rfl, rfl, rfl, rfl, rfl, rfl, rfl, rfl, trivial⟩ rfl rfl (Nat.le_refl _))
          ·
            refine OpE.buildSlice (zc := #[.int .i64 0, .int .i64 0, .int .i64 0]) rfl hB rfl Tryz.underlying22 Tryz.sizeOf3 Tryz.zeroValue3 (by decide) (by decide) (by kernel_rfl) rfl rfl ?_
            have hh := hS19 
            rw [hF] at hh
            exact VA.to hh (by decide +kernel) (Le.mk hB [0] ⟨rfl, rfl, rfl, rfl, rfl, rfl, rfl, rfl, rfl, rfl, rfl, rfl, rfl, rfl, rfl, rfl, rfl, rfl, rfl, rfl, rfl, rfl, rfl, rfl, rfl, trivial⟩ rfl rfl (Nat.le_refl _))
        have hS28 : F 21 (lstB 67 [0, 1, 2, 3, 4, 5, 6, 7, 8, 9, 10, 11, 12, 13, 14, 16, 17, 18, 19, 20, 21, 22, 23, 24, 25, 27, 28, 29, 30, 31, 32, 34, 35, 36, 37, 38, 41, 42, 43, 44, 45, 46, 47, 48, 49, 50]) ⟨[(0, sp p), (53, sp p), (64, sp p), (75, sp p), (82, sp p), (89, sp p), (48, (pO gr (0 + i * 5))), (49, (pO gr (0 + i * 5))), (50, (pO gr (0 + i * 5))), (51, (pO gr (0 + i * 5))), (52, (pO gr (0 + i * 5))), (57, avS (xO l i).key), (61, avS (xO l i).key), (68, avS (xO l i).product), (72, avS (xO l i).product), (79, avI (xO l i).count), (86, avI (xO l i).ready), (93, avI (xO l i).due), (97, avI (xO l i).due), (5, .v (.slice (some ⟨gr, 0, none⟩) l.length cap)), (62, (iO 4 [avS (xO l i).key, avS (xO l i).key, avS ⟨#[]⟩, avS ⟨#[111, 97]⟩])), (73, (iO 4 [avS (xO l i).product, avS (xO l i).product, avS ⟨#[122, 122]⟩, avS ⟨#[]⟩])), (80, (iO 3 [avI (xO l i).count, avI 0, avI 100001])), (98, (iO 3 [avI (xO l i).due, avI (xO l i).due, avI 345686400000]))], [.box gr ⟨rowL l, 104, cap * 5⟩], k + 1 + 4 * q + 1 + 1⟩ := by
          rw [hF]
          refine VA.all (rs := [15, 39]) (by decide +kernel) (by decide) ?_
          refine ⟨⟨_, rfl, .inl rfl, ?_⟩, ⟨_, rfl, .inl rfl, ?_⟩, trivial⟩
          ·
            refine OpE.callT' (k + 1 + 4 * q + 1 + 1) rfl rfl hB rfl Tryz.call82 rfl (some_Q (by rfl) (by decide) (by decide) (AllQ.cons ⟨(hok.getD i).1, (hok.getD i).2.2⟩ (AllQ.cons ⟨(hok.getD i).1, (hok.getD i).2.2⟩ (AllQ.cons (by decide) (AllQ.cons (by decide) AllQ.nil))))) (by omega) ?_
            rintro _ ⟨r63, hr63, rfl⟩
            have hh := hS16 r63 hr63
            rw [hF] at hh
            exact VA.to hh (by decide +kernel) (Le.mk hB [0] ⟨rfl, rfl, rfl, rfl, rfl, rfl, rfl, rfl, rfl, rfl, rfl, rfl, rfl, rfl, rfl, rfl, rfl, rfl, rfl, rfl, rfl, rfl, rfl, rfl, rfl, trivial⟩ rfl rfl (Nat.le_refl _))
          ·
            refine OpE.buildSlice (zc := #[.int .i64 0, .int .i64 0, .int .i64 0]) rfl hB rfl Tryz.underlying22 Tryz.sizeOf3 Tryz.zeroValue3 (by decide) (by decide) (by kernel_rfl) rfl rfl ?_
            have hh := hS19 
            rw [hF] at hh
            exact VA.to hh (by decide +kernel) (Le.mk hB [0] ⟨rfl, rfl, rfl, rfl, rfl, rfl, rfl, rfl, rfl, rfl, rfl, rfl, rfl, rfl, rfl, rfl, rfl, rfl, rfl, rfl, rfl, rfl, rfl, rfl, rfl, trivial⟩ rfl rfl (Nat.le_refl _))
        have hS29 : F 21 (lstB 67 [0, 1, 2, 3, 4, 5, 6, 7, 8, 9, 10, 11, 12, 13, 14, 16, 17, 18, 19, 20, 21, 22, 23, 24, 25, 27, 28, 29, 30, 31, 34, 35, 36, 37, 38, 39, 41, 42, 43, 44, 45, 46, 47, 48, 49, 50]) ⟨[(0, sp p), (53, sp p), (64, sp p), (75, sp p), (82, sp p), (89, sp p), (48, (pO gr (0 + i * 5))), (49, (pO gr (0 + i * 5))), (50, (pO gr (0 + i * 5))), (51, (pO gr (0 + i * 5))), (52, (pO gr (0 + i * 5))), (57, avS (xO l i).key), (61, avS (xO l i).key), (68, avS (xO l i).product), (72, avS (xO l i).product), (79, avI (xO l i).count), (86, avI (xO l i).ready), (93, avI (xO l i).due), (97, avI (xO l i).due), (5, .v (.slice (some ⟨gr, 0, none⟩) l.length cap)), (62, (iO 4 [avS (xO l i).key, avS (xO l i).key, avS ⟨#[]⟩, avS ⟨#[111, 97]⟩])), (73, (iO 4 [avS (xO l i).product, avS (xO l i).product, avS ⟨#[122, 122]⟩, avS ⟨#[]⟩])), (87, (iO 3 [avI (xO l i).ready, avI (-1), avI 345686400000])), (98, (iO 3 [avI (xO l i).due, avI (xO l i).due, avI 345686400000]))], [.box gr ⟨rowL l, 104, cap * 5⟩], k + 1 + 4 * q + 1 + 1⟩ := by
          rw [hF]
          refine VA.all (rs := [15, 32]) (by decide +kernel) (by decide) ?_
          refine ⟨⟨_, rfl, .inl rfl, ?_⟩, ⟨_, rfl, .inl rfl, ?_⟩, trivial⟩
          ·
            refine OpE.callT' (k + 1 + 4 * q + 1 + 1) rfl rfl hB rfl Tryz.call82 rfl (some_Q (by rfl) (by decide) (by decide) (AllQ.cons ⟨(hok.getD i).1, (hok.getD i).2.2⟩ (AllQ.cons ⟨(hok.getD i).1, (hok.getD i).2.2⟩ (AllQ.cons (by decide) (AllQ.cons (by decide) AllQ.nil))))) (by omega) ?_
            rintro _ ⟨r63, hr63, rfl⟩
            have hh := hS17 r63 hr63
            rw [hF] at hh
            exact VA.to hh (by decide +kernel) (Le.mk hB [0] ⟨rfl, rfl, rfl, rfl, rfl, rfl, rfl, rfl, rfl, rfl, rfl, rfl, rfl, rfl, rfl, rfl, rfl, rfl, rfl, rfl, rfl, rfl, rfl, rfl, rfl, trivial⟩ rfl rfl (Nat.le_refl _))
          ·
            refine OpE.buildSlice (zc := #[.int .i64 0, .int .i64 0, .int .i64 0]) rfl hB rfl Tryz.underlying22 Tryz.sizeOf3 Tryz.zeroValue3 (by decide) (by decide) (by kernel_rfl) rfl rfl ?_
            have hh := hS19 
            rw [hF] at hh
            exact VA.to hh (by decide +kernel) (Le.mk hB [0] ⟨rfl, rfl, rfl, rfl, rfl, rfl, rfl, rfl, rfl, rfl, rfl, rfl, rfl, rfl, rfl, rfl, rfl, rfl, rfl, rfl, rfl, rfl, rfl, rfl, rfl, trivial⟩ rfl rfl (Nat.le_refl _))
        have hS30 : F 21 (lstB 67 [0, 1, 2, 3, 4, 5, 6, 7, 8, 9, 10, 11, 12, 13, 14, 16, 17, 18, 19, 20, 21, 22, 23, 24, 27, 28, 29, 30, 31, 32, 34, 35, 36, 37, 38, 39, 41, 42, 43, 44, 45, 46, 47, 48, 49, 50]) ⟨[(0, sp p), (53, sp p), (64, sp p), (75, sp p), (82, sp p), (89, sp p), (48, (pO gr (0 + i * 5))), (49, (pO gr (0 + i * 5))), (50, (pO gr (0 + i * 5))), (51, (pO gr (0 + i * 5))), (52, (pO gr (0 + i * 5))), (57, avS (xO l i).key), (61, avS (xO l i).key), (68, avS (xO l i).product), (72, avS (xO l i).product), (79, avI (xO l i).count), (86, avI (xO l i).ready), (93, avI (xO l i).due), (97, avI (xO l i).due), (5, .v (.slice (some ⟨gr, 0, none⟩) l.length cap)), (62, (iO 4 [avS (xO l i).key, avS (xO l i).key, avS ⟨#[]⟩, avS ⟨#[111, 97]⟩])), (80, (iO 3 [avI (xO l i).count, avI 0, avI 100001])), (87, (iO 3 [avI (xO l i).ready, avI (-1), avI 345686400000])), (98, (iO 3 [avI (xO l i).due, avI (xO l i).due, avI 345686400000]))], [.box gr ⟨rowL l, 104, cap * 5⟩], k + 1 + 4 * q + 1 + 1⟩ := by
          rw [hF]
          refine VA.all (rs := [15, 25]) (by decide +kernel) (by decide) ?_
          refine ⟨⟨_, rfl, .inl rfl, ?_⟩, ⟨_, rfl, .inl rfl, ?_⟩, trivial⟩
          ·
            refine OpE.callT' (k + 1 + 4 * q + 1 + 1) rfl rfl hB rfl Tryz.call82 rfl (some_Q (by rfl) (by decide) (by decide) (AllQ.cons ⟨(hok.getD i).1, (hok.getD i).2.2⟩ (AllQ.cons ⟨(hok.getD i).1, (hok.getD i).2.2⟩ (AllQ.cons (by decide) (AllQ.cons (by decide) AllQ.nil))))) (by omega) ?_
            rintro _ ⟨r63, hr63, rfl⟩
            have hh := hS18 r63 hr63
            rw [hF] at hh
            exact VA.to hh (by decide +kernel) (Le.mk hB [0] ⟨rfl, rfl, rfl, rfl, rfl, rfl, rfl, rfl, rfl, rfl, rfl, rfl, rfl, rfl, rfl, rfl, rfl, rfl, rfl, rfl, rfl, rfl, rfl, rfl, rfl, trivial⟩ rfl rfl (Nat.le_refl _))
          ·
            refine OpE.buildSlice (zc := #[.string ⟨#[]⟩, .string ⟨#[]⟩, .string ⟨#[]⟩, .string ⟨#[]⟩]) rfl hB rfl Tryz.underlying29 Tryz.sizeOf9 Tryz.zeroValue9 (by decide) (by decide) (by kernel_rfl) rfl rfl ?_
            have hh := hS19 
            rw [hF] at hh
            exact VA.to hh (by decide +kernel) (Le.mk hB [0] ⟨rfl, rfl, rfl, rfl, rfl, rfl, rfl, rfl, rfl, rfl, rfl, rfl, rfl, rfl, rfl, rfl, rfl, rfl, rfl, rfl, rfl, rfl, rfl, rfl, rfl, trivial⟩ rfl rfl (Nat.le_refl _))
        have hS31 : F 21 (lstB 67 [0, 1, 2, 3, 4, 5, 6, 7, 8, 9, 10, 11, 12, 13, 16, 17, 18, 19, 20, 21, 22, 23, 24, 25, 27, 28, 29, 30, 31, 32, 34, 35, 36, 37, 38, 39, 41, 42, 43, 44, 45, 46, 47, 48, 49, 50]) ⟨[(0, sp p), (53, sp p), (64, sp p), (75, sp p), (82, sp p), (89, sp p), (48, (pO gr (0 + i * 5))), (49, (pO gr (0 + i * 5))), (50, (pO gr (0 + i * 5))), (51, (pO gr (0 + i * 5))), (52, (pO gr (0 + i * 5))), (57, avS (xO l i).key), (61, avS (xO l i).key), (68, avS (xO l i).product), (72, avS (xO l i).product), (79, avI (xO l i).count), (86, avI (xO l i).ready), (93, avI (xO l i).due), (97, avI (xO l i).due), (5, .v (.slice (some ⟨gr, 0, none⟩) l.length cap)), (73, (iO 4 [avS (xO l i).product, avS (xO l i).product, avS ⟨#[122, 122]⟩, avS ⟨#[]⟩])), (80, (iO 3 [avI (xO l i).count, avI 0, avI 100001])), (87, (iO 3 [avI (xO l i).ready, avI (-1), avI 345686400000])), (98, (iO 3 [avI (xO l i).due, avI (xO l i).due, avI 345686400000]))], [.box gr ⟨rowL l, 104, cap * 5⟩], k + 1 + 4 * q + 1 + 1⟩ := by
          rw [hF]
          refine VA.all (rs := [14]) (by decide +kernel) (by decide) ?_
          refine ⟨⟨_, rfl, .inl rfl, ?_⟩, trivial⟩
          refine OpE.buildSlice (zc := #[.string ⟨#[]⟩, .string ⟨#[]⟩, .string ⟨#[]⟩, .string ⟨#[]⟩]) rfl hB rfl Tryz.underlying29 Tryz.sizeOf9 Tryz.zeroValue9 (by decide) (by decide) (by kernel_rfl) rfl rfl ?_
          have hh := hS19 
          rw [hF] at hh
          exact VA.to hh (by decide +kernel) (Le.mk hB [0] ⟨rfl, rfl, rfl, rfl, rfl, rfl, rfl, rfl, rfl, rfl, rfl, rfl, rfl, rfl, rfl, rfl, rfl, rfl, rfl, rfl, rfl, rfl, rfl, rfl, rfl, trivial⟩ rfl rfl (Nat.le_refl _))
        have hS32 : ∀ (r63 : ByteArray) (hr63 : r63.size ≤ 1000 ∧ r63 ≠ ozK), F 22 (lstB 67 [0, 1, 2, 3, 4, 5, 6, 7, 8, 9, 10, 11, 12, 13, 14, 15, 16, 17, 18, 19, 20, 21, 22, 23, 24, 25, 27, 28, 29, 30, 31, 34, 35, 36, 37, 38, 41, 42, 43, 44, 45, 46, 47, 48, 49]) ⟨[(0, sp p), (53, sp p), (64, sp p), (75, sp p), (82, sp p), (89, sp p), (48, (pO gr (0 + i * 5))), (49, (pO gr (0 + i * 5))), (50, (pO gr (0 + i * 5))), (51, (pO gr (0 + i * 5))), (52, (pO gr (0 + i * 5))), (57, avS (xO l i).key), (61, avS (xO l i).key), (68, avS (xO l i).product), (72, avS (xO l i).product), (79, avI (xO l i).count), (86, avI (xO l i).ready), (93, avI (xO l i).due), (97, avI (xO l i).due), (5, .v (.slice (some ⟨gr, 0, none⟩) l.length cap)), (62, (iO 4 [avS (xO l i).key, avS (xO l i).key, avS ⟨#[]⟩, avS ⟨#[111, 97]⟩])), (63, avS r63), (73, (iO 4 [avS (xO l i).product, avS (xO l i).product, avS ⟨#[122, 122]⟩, avS ⟨#[]⟩]))], [.box gr ⟨rowL l, 104, cap * 5⟩], k + 1 + 4 * q + 1 + 1 + 1⟩ := by
          intro r63 hr63
          rw [hF]
          refine VA.all (rs := [26, 32, 39, 50]) (by decide +kernel) (by decide) ?_
          refine ⟨⟨_, rfl, .inl rfl, ?_⟩, ⟨_, rfl, .inl rfl, ?_⟩, ⟨_, rfl, .inl rfl, ?_⟩, ⟨_, rfl, .inl rfl, ?_⟩, trivial⟩
          ·
            refine OpE.callT' (k + 1 + 4 * q + 1 + 1 + 1) rfl rfl hB rfl Tryz.call82 rfl (some_T 1000 (by rfl) (by decide) (by decide) (AllS.cons (hok.getD i).2.1 (AllS.cons (hok.getD i).2.1 (AllS.cons (by decide) (AllS.cons (by decide) AllS.nil))))) (by omega) ?_
            rintro _ ⟨r74, hr74, rfl⟩
            have hh := hS20 r63 hr63 r74 hr74
            rw [hF] at hh
            exact VA.to hh (by decide +kernel) (Le.mk hB [0] ⟨rfl, rfl, rfl, rfl, rfl, rfl, rfl, rfl, rfl, rfl, rfl, rfl, rfl, rfl, rfl, rfl, rfl, rfl, rfl, rfl, rfl, rfl, rfl, rfl, trivial⟩ rfl rfl (Nat.le_refl _))
          ·
            refine OpE.buildSlice (zc := #[.int .i64 0, .int .i64 0, .int .i64 0]) rfl hB rfl Tryz.underlying22 Tryz.sizeOf3 Tryz.zeroValue3 (by decide) (by decide) (by kernel_rfl) rfl rfl ?_
            have hh := hS21 r63 hr63
            rw [hF] at hh
            exact VA.to hh (by decide +kernel) (Le.mk hB [0] ⟨rfl, rfl, rfl, rfl, rfl, rfl, rfl, rfl, rfl, rfl, rfl, rfl, rfl, rfl, rfl, rfl, rfl, rfl, rfl, rfl, rfl, rfl, rfl, rfl, trivial⟩ rfl rfl (Nat.le_refl _))
          ·
            refine OpE.buildSlice (zc := #[.int .i64 0, .int .i64 0, .int .i64 0]) rfl hB rfl Tryz.underlying22 Tryz.sizeOf3 Tryz.zeroValue3 (by decide) (by decide) (by kernel_rfl) rfl rfl ?_
            have hh := hS22 r63 hr63
            rw [hF] at hh
            exact VA.to hh (by decide +kernel) (Le.mk hB [0] ⟨rfl, rfl, rfl, rfl, rfl, rfl, rfl, rfl, rfl, rfl, rfl, rfl, rfl, rfl, rfl, rfl, rfl, rfl, rfl, rfl, rfl, rfl, rfl, rfl, trivial⟩ rfl rfl (Nat.le_refl _))
          ·
            refine OpE.buildSlice (zc := #[.int .i64 0, .int .i64 0, .int .i64 0]) rfl hB rfl Tryz.underlying22 Tryz.sizeOf3 Tryz.zeroValue3 (by decide) (by decide) (by kernel_rfl) rfl rfl ?_
            have hh := hS23 r63 hr63
            rw [hF] at hh
            exact VA.to hh (by decide +kernel) (Le.mk hB [0] ⟨rfl, rfl, rfl, rfl, rfl, rfl, rfl, rfl, rfl, rfl, rfl, rfl, rfl, rfl, rfl, rfl, rfl, rfl, rfl, rfl, rfl, rfl, rfl, rfl, trivial⟩ rfl rfl (Nat.le_refl _))
        have hS33 : ∀ (r63 : ByteArray) (hr63 : r63.size ≤ 1000 ∧ r63 ≠ ozK), F 22 (lstB 67 [0, 1, 2, 3, 4, 5, 6, 7, 8, 9, 10, 11, 12, 13, 14, 15, 16, 17, 18, 19, 20, 21, 22, 23, 24, 27, 28, 29, 30, 31, 32, 34, 35, 36, 37, 38, 41, 42, 43, 44, 45, 46, 47, 48, 49]) ⟨[(0, sp p), (53, sp p), (64, sp p), (75, sp p), (82, sp p), (89, sp p), (48, (pO gr (0 + i * 5))), (49, (pO gr (0 + i * 5))), (50, (pO gr (0 + i * 5))), (51, (pO gr (0 + i * 5))), (52, (pO gr (0 + i * 5))), (57, avS (xO l i).key), (61, avS (xO l i).key), (68, avS (xO l i).product), (72, avS (xO l i).product), (79, avI (xO l i).count), (86, avI (xO l i).ready), (93, avI (xO l i).due), (97, avI (xO l i).due), (5, .v (.slice (some ⟨gr, 0, none⟩) l.length cap)), (62, (iO 4 [avS (xO l i).key, avS (xO l i).key, avS ⟨#[]⟩, avS ⟨#[111, 97]⟩])), (63, avS r63), (80, (iO 3 [avI (xO l i).count, avI 0, avI 100001]))], [.box gr ⟨rowL l, 104, cap * 5⟩], k + 1 + 4 * q + 1 + 1 + 1⟩ := by
          intro r63 hr63
          rw [hF]
          refine VA.all (rs := [25, 39, 50]) (by decide +kernel) (by decide) ?_
          refine ⟨⟨_, rfl, .inl rfl, ?_⟩, ⟨_, rfl, .inl rfl, ?_⟩, ⟨_, rfl, .inl rfl, ?_⟩, trivial⟩
          ·
            refine OpE.buildSlice (zc := #[.string ⟨#[]⟩, .string ⟨#[]⟩, .string ⟨#[]⟩, .string ⟨#[]⟩]) rfl hB rfl Tryz.underlying29 Tryz.sizeOf9 Tryz.zeroValue9 (by decide) (by decide) (by kernel_rfl) rfl rfl ?_
            have hh := hS21 r63 hr63
            rw [hF] at hh
            exact VA.to hh (by decide +kernel) (Le.mk hB [0] ⟨rfl, rfl, rfl, rfl, rfl, rfl, rfl, rfl, rfl, rfl, rfl, rfl, rfl, rfl, rfl, rfl, rfl, rfl, rfl, rfl, rfl, rfl, rfl, rfl, trivial⟩ rfl rfl (Nat.le_refl _))
          ·
            refine OpE.buildSlice (zc := #[.int .i64 0, .int .i64 0, .int .i64 0]) rfl hB rfl Tryz.underlying22 Tryz.sizeOf3 Tryz.zeroValue3 (by decide) (by decide) (by kernel_rfl) rfl rfl ?_
            have hh := hS24 r63 hr63
            rw [hF] at hh
            exact VA.to hh (by decide +kernel) (Le.mk hB [0] ⟨rfl, rfl, rfl, rfl, rfl, rfl, rfl, rfl, rfl, rfl, rfl, rfl, rfl, rfl, rfl, rfl, rfl, rfl, rfl, rfl, rfl, rfl, rfl, rfl, trivial⟩ rfl rfl (Nat.le_refl _))
          ·
            refine OpE.buildSlice (zc := #[.int .i64 0, .int .i64 0, .int .i64 0]) rfl hB rfl Tryz.underlying22 Tryz.sizeOf3 Tryz.zeroValue3 (by decide) (by decide) (by kernel_rfl) rfl rfl ?_
            have hh := hS25 r63 hr63
            rw [hF] at hh
            exact VA.to hh (by decide +kernel) (Le.mk hB [0] ⟨rfl, rfl, rfl, rfl, rfl, rfl, rfl, rfl, rfl, rfl, rfl, rfl, rfl, rfl, rfl, rfl, rfl, rfl, rfl, rfl, rfl, rfl, rfl, rfl, trivial⟩ rfl rfl (Nat.le_refl _))
        have hS34 : ∀ (r63 : ByteArray) (hr63 : r63.size ≤ 1000 ∧ r63 ≠ ozK), F 22 (lstB 67 [0, 1, 2, 3, 4, 5, 6, 7, 8, 9, 10, 11, 12, 13, 14, 15, 16, 17, 18, 19, 20, 21, 22, 23, 24, 27, 28, 29, 30, 31, 34, 35, 36, 37, 38, 39, 41, 42, 43, 44, 45, 46, 47, 48, 49]) ⟨[(0, sp p), (53, sp p), (64, sp p), (75, sp p), (82, sp p), (89, sp p), (48, (pO gr (0 + i * 5))), (49, (pO gr (0 + i * 5))), (50, (pO gr (0 + i * 5))), (51, (pO gr (0 + i * 5))), (52, (pO gr (0 + i * 5))), (57, avS (xO l i).key), (61, avS (xO l i).key), (68, avS (xO l i).product), (72, avS (xO l i).product), (79, avI (xO l i).count), (86, avI (xO l i).ready), (93, avI (xO l i).due), (97, avI (xO l i).due), (5, .v (.slice (some ⟨gr, 0, none⟩) l.length cap)), (62, (iO 4 [avS (xO l i).key, avS (xO l i).key, avS ⟨#[]⟩, avS ⟨#[111, 97]⟩])), (63, avS r63), (87, (iO 3 [avI (xO l i).ready, avI (-1), avI 345686400000]))], [.box gr ⟨rowL l, 104, cap * 5⟩], k + 1 + 4 * q + 1 + 1 + 1⟩ := by
          intro r63 hr63
          rw [hF]
          refine VA.all (rs := [25, 32, 50]) (by decide +kernel) (by decide) ?_
          refine ⟨⟨_, rfl, .inl rfl, ?_⟩, ⟨_, rfl, .inl rfl, ?_⟩, ⟨_, rfl, .inl rfl, ?_⟩, trivial⟩
          ·
            refine OpE.buildSlice (zc := #[.string ⟨#[]⟩, .string ⟨#[]⟩, .string ⟨#[]⟩, .string ⟨#[]⟩]) rfl hB rfl Tryz.underlying29 Tryz.sizeOf9 Tryz.zeroValue9 (by decide) (by decide) (by kernel_rfl) rfl rfl ?_
            have hh := hS22 r63 hr63
            rw [hF] at hh
            exact VA.to hh (by decide +kernel) (Le.mk hB [0] ⟨rfl, rfl, rfl, rfl, rfl, rfl, rfl, rfl, rfl, rfl, rfl, rfl, rfl, rfl, rfl, rfl, rfl, rfl, rfl, rfl, rfl, rfl, rfl, rfl, trivial⟩ rfl rfl (Nat.le_refl _))
          ·
            refine OpE.buildSlice (zc := #[.int .i64 0, .int .i64 0, .int .i64 0]) rfl hB rfl Tryz.underlying22 Tryz.sizeOf3 Tryz.zeroValue3 (by decide) (by decide) (by kernel_rfl) rfl rfl ?_
            have hh := hS24 r63 hr63
            rw [hF] at hh
            exact VA.to hh (by decide +kernel) (Le.mk hB [0] ⟨rfl, rfl, rfl, rfl, rfl, rfl, rfl, rfl, rfl, rfl, rfl, rfl, rfl, rfl, rfl, rfl, rfl, rfl, rfl, rfl, rfl, rfl, rfl, rfl, trivial⟩ rfl rfl (Nat.le_refl _))
          ·
            refine OpE.buildSlice (zc := #[.int .i64 0, .int .i64 0, .int .i64 0]) rfl hB rfl Tryz.underlying22 Tryz.sizeOf3 Tryz.zeroValue3 (by decide) (by decide) (by kernel_rfl) rfl rfl ?_
            have hh := hS26 r63 hr63
            rw [hF] at hh
            exact VA.to hh (by decide +kernel) (Le.mk hB [0] ⟨rfl, rfl, rfl, rfl, rfl, rfl, rfl, rfl, rfl, rfl, rfl, rfl, rfl, rfl, rfl, rfl, rfl, rfl, rfl, rfl, rfl, rfl, rfl, rfl, trivial⟩ rfl rfl (Nat.le_refl _))
        have hS35 : ∀ (r63 : ByteArray) (hr63 : r63.size ≤ 1000 ∧ r63 ≠ ozK), F 22 (lstB 67 [0, 1, 2, 3, 4, 5, 6, 7, 8, 9, 10, 11, 12, 13, 14, 15, 16, 17, 18, 19, 20, 21, 22, 23, 24, 27, 28, 29, 30, 31, 34, 35, 36, 37, 38, 41, 42, 43, 44, 45, 46, 47, 48, 49, 50]) ⟨[(0, sp p), (53, sp p), (64, sp p), (75, sp p), (82, sp p), (89, sp p), (48, (pO gr (0 + i * 5))), (49, (pO gr (0 + i * 5))), (50, (pO gr (0 + i * 5))), (51, (pO gr (0 + i * 5))), (52, (pO gr (0 + i * 5))), (57, avS (xO l i).key), (61, avS (xO l i).key), (68, avS (xO l i).product), (72, avS (xO l i).product), (79, avI (xO l i).count), (86, avI (xO l i).ready), (93, avI (xO l i).due), (97, avI (xO l i).due), (5, .v (.slice (some ⟨gr, 0, none⟩) l.length cap)), (62, (iO 4 [avS (xO l i).key, avS (xO l i).key, avS ⟨#[]⟩, avS ⟨#[111, 97]⟩])), (63, avS r63), (98, (iO 3 [avI (xO l i).due, avI (xO l i).due, avI 345686400000]))], [.box gr ⟨rowL l, 104, cap * 5⟩], k + 1 + 4 * q + 1 + 1 + 1⟩ := by
          intro r63 hr63
          rw [hF]
          refine VA.all (rs := [25, 32, 39]) (by decide +kernel) (by decide) ?_
          refine ⟨⟨_, rfl, .inl rfl, ?_⟩, ⟨_, rfl, .inl rfl, ?_⟩, ⟨_, rfl, .inl rfl, ?_⟩, trivial⟩
          ·
            refine OpE.buildSlice (zc := #[.string ⟨#[]⟩, .string ⟨#[]⟩, .string ⟨#[]⟩, .string ⟨#[]⟩]) rfl hB rfl Tryz.underlying29 Tryz.sizeOf9 Tryz.zeroValue9 (by decide) (by decide) (by kernel_rfl) rfl rfl ?_
            have hh := hS23 r63 hr63
            rw [hF] at hh
            exact VA.to hh (by decide +kernel) (Le.mk hB [0] ⟨rfl, rfl, rfl, rfl, rfl, rfl, rfl, rfl, rfl, rfl, rfl, rfl, rfl, rfl, rfl, rfl, rfl, rfl, rfl, rfl, rfl, rfl, rfl, rfl, trivial⟩ rfl rfl (Nat.le_refl _))
          ·
            refine OpE.buildSlice (zc := #[.int .i64 0, .int .i64 0, .int .i64 0]) rfl hB rfl Tryz.underlying22 Tryz.sizeOf3 Tryz.zeroValue3 (by decide) (by decide) (by kernel_rfl) rfl rfl ?_
            have hh := hS25 r63 hr63
            rw [hF] at hh
            exact VA.to hh (by decide +kernel) (Le.mk hB [0] ⟨rfl, rfl, rfl, rfl, rfl, rfl, rfl, rfl, rfl, rfl, rfl, rfl, rfl, rfl, rfl, rfl, rfl, rfl, rfl, rfl, rfl, rfl, rfl, rfl, trivial⟩ rfl rfl (Nat.le_refl _))
          ·
            refine OpE.buildSlice (zc := #[.int .i64 0, .int .i64 0, .int .i64 0]) rfl hB rfl Tryz.underlying22 Tryz.sizeOf3 Tryz.zeroValue3 (by decide) (by decide) (by kernel_rfl) rfl rfl ?_
            have hh := hS26 r63 hr63
            rw [hF] at hh
            exact VA.to hh (by decide +kernel) (Le.mk hB [0] ⟨rfl, rfl, rfl, rfl, rfl, rfl, rfl, rfl, rfl, rfl, rfl, rfl, rfl, rfl, rfl, rfl, rfl, rfl, rfl, rfl, rfl, rfl, rfl, rfl, trivial⟩ rfl rfl (Nat.le_refl _))
        have hS36 : F 22 (lstB 67 [0, 1, 2, 3, 4, 5, 6, 7, 8, 9, 10, 11, 12, 13, 14, 16, 17, 18, 19, 20, 21, 22, 23, 24, 25, 27, 28, 29, 30, 31, 32, 34, 35, 36, 37, 38, 41, 42, 43, 44, 45, 46, 47, 48, 49]) ⟨[(0, sp p), (53, sp p), (64, sp p), (75, sp p), (82, sp p), (89, sp p), (48, (pO gr (0 + i * 5))), (49, (pO gr (0 + i * 5))), (50, (pO gr (0 + i * 5))), (51, (pO gr (0 + i * 5))), (52, (pO gr (0 + i * 5))), (57, avS (xO l i).key), (61, avS (xO l i).key), (68, avS (xO l i).product), (72, avS (xO l i).product), (79, avI (xO l i).count), (86, avI (xO l i).ready), (93, avI (xO l i).due), (97, avI (xO l i).due), (5, .v (.slice (some ⟨gr, 0, none⟩) l.length cap)), (62, (iO 4 [avS (xO l i).key, avS (xO l i).key, avS ⟨#[]⟩, avS ⟨#[111, 97]⟩])), (73, (iO 4 [avS (xO l i).product, avS (xO l i).product, avS ⟨#[122, 122]⟩, avS ⟨#[]⟩])), (80, (iO 3 [avI (xO l i).count, avI 0, avI 100001]))], [.box gr ⟨rowL l, 104, cap * 5⟩], k + 1 + 4 * q + 1 + 1⟩ := by
          rw [hF]
          refine VA.all (rs := [15, 39, 50]) (by decide +kernel) (by decide) ?_
          refine ⟨⟨_, rfl, .inl rfl, ?_⟩, ⟨_, rfl, .inl rfl, ?_⟩, ⟨_, rfl, .inl rfl, ?_⟩, trivial⟩
          ·
            refine OpE.callT' (k + 1 + 4 * q + 1 + 1) rfl rfl hB rfl Tryz.call82 rfl (some_Q (by rfl) (by decide) (by decide) (AllQ.cons ⟨(hok.getD i).1, (hok.getD i).2.2⟩ (AllQ.cons ⟨(hok.getD i).1, (hok.getD i).2.2⟩ (AllQ.cons (by decide) (AllQ.cons (by decide) AllQ.nil))))) (by omega) ?_
            rintro _ ⟨r63, hr63, rfl⟩
            have hh := hS21 r63 hr63
            rw [hF] at hh
            exact VA.to hh (by decide +kernel) (Le.mk hB [0] ⟨rfl, rfl, rfl, rfl, rfl, rfl, rfl, rfl, rfl, rfl, rfl, rfl, rfl, rfl, rfl, rfl, rfl, rfl, rfl, rfl, rfl, rfl, rfl, rfl, trivial⟩ rfl rfl (Nat.le_refl _))
          ·
            refine OpE.buildSlice (zc := #[.int .i64 0, .int .i64 0, .int .i64 0]) rfl hB rfl Tryz.underlying22 Tryz.sizeOf3 Tryz.zeroValue3 (by decide) (by decide) (by kernel_rfl) rfl rfl ?_
            have hh := hS27 
            rw [hF] at hh
            exact VA.to hh (by decide +kernel) (Le.mk hB [0] ⟨rfl, rfl, rfl, rfl, rfl, rfl, rfl, rfl, rfl, rfl, rfl, rfl, rfl, rfl, rfl, rfl, rfl, rfl, rfl, rfl, rfl, rfl, rfl, rfl, trivial⟩ rfl rfl (Nat.le_refl _))
          ·
            refine OpE.buildSlice (zc := #[.int .i64 0, .int .i64 0, .int .i64 0]) rfl hB rfl Tryz.underlying22 Tryz.sizeOf3 Tryz.zeroValue3 (by decide) (by decide) (by kernel_rfl) rfl rfl ?_
            have hh := hS28 
            rw [hF] at hh
            exact VA.to hh (by decide +kernel) (Le.mk hB [0] ⟨rfl, rfl, rfl, rfl, rfl, rfl, rfl, rfl, rfl, rfl, rfl, rfl, rfl, rfl, rfl, rfl, rfl, rfl, rfl, rfl, rfl, rfl, rfl, rfl, trivial⟩ rfl rfl (Nat.le_refl _))
        have hS37 : F 22 (lstB 67 [0, 1, 2, 3, 4, 5, 6, 7, 8, 9, 10, 11, 12, 13, 14, 16, 17, 18, 19, 20, 21, 22, 23, 24, 25, 27, 28, 29, 30, 31, 34, 35, 36, 37, 38, 39, 41, 42, 43, 44, 45, 46, 47, 48, 49]) ⟨[(0, sp p), (53, sp p), (64, sp p), (75, sp p), (82, sp p), (89, sp p), (48, (pO gr (0 + i * 5))), (49, (pO gr (0 + i * 5))), (50, (pO gr (0 + i * 5))), (51, (pO gr (0 + i * 5))), (52, (pO gr (0 + i * 5))), (57, avS (xO l i).key), (61, avS (xO l i).key), (68, avS (xO l i).product), (72, avS (xO l i).product), (79, avI (xO l i).count), (86, avI (xO l i).ready), (93, avI (xO l i).due), (97, avI (xO l i).due), (5, .v (.slice (some ⟨gr, 0, none⟩) l.length cap)), (62, (iO 4 [avS (xO l i).key, avS (xO l i).key, avS ⟨#[]⟩, avS ⟨#[111, 97]⟩])), (73, (iO 4 [avS (xO l i).product, avS (xO l i).product, avS ⟨#[122, 122]⟩, avS ⟨#[]⟩])), (87, (iO 3 [avI (xO l i).ready, avI (-1), avI 345686400000]))], [.box gr ⟨rowL l, 104, cap * 5⟩], k + 1 + 4 * q + 1 + 1⟩ := by
          rw [hF]
          refine VA.all (rs := [15, 32, 50]) (by decide +kernel) (by decide) ?_
          refine ⟨⟨_, rfl, .inl rfl, ?_⟩, ⟨_, rfl, .inl rfl, ?_⟩, ⟨_, rfl, .inl rfl, ?_⟩, trivial⟩
          ·
            refine OpE.callT' (k + 1 + 4 * q + 1 + 1) rfl rfl hB rfl Tryz.call82 rfl (some_Q (by rfl) (by decide) (by decide) (AllQ.cons ⟨(hok.getD i).1, (hok.getD i).2.2⟩ (AllQ.cons ⟨(hok.getD i).1, (hok.getD i).2.2⟩ (AllQ.cons (by decide) (AllQ.cons (by decide) AllQ.nil))))) (by omega) ?_
            rintro _ ⟨r63, hr63, rfl⟩
            have hh := hS22 r63 hr63
            rw [hF] at hh
            exact VA.to hh (by decide +kernel) (Le.mk hB [0] ⟨rfl, rfl, rfl, rfl, rfl, rfl, rfl, rfl, rfl, rfl, rfl, rfl, rfl, rfl, rfl, rfl, rfl, rfl, rfl, rfl, rfl, rfl, rfl, rfl, trivial⟩ rfl rfl (Nat.le_refl _))
          ·
            refine OpE.buildSlice (zc := #[.int .i64 0, .int .i64 0, .int .i64 0]) rfl hB rfl Tryz.underlying22 Tryz.sizeOf3 Tryz.zeroValue3 (by decide) (by decide) (by kernel_rfl) rfl rfl ?_
            have hh := hS27 
            rw [hF] at hh
            exact VA.to hh (by decide +kernel) (Le.mk hB [0] ⟨rfl, rfl, rfl, rfl, rfl, rfl, rfl, rfl, rfl, rfl, rfl, rfl, rfl, rfl, rfl, rfl, rfl, rfl, rfl, rfl, rfl, rfl, rfl, rfl, trivial⟩ rfl rfl (Nat.le_refl _))
          ·
            refine OpE.buildSlice (zc := #[.int .i64 0, .int .i64 0, .int .i64 0]) rfl hB rfl Tryz.underlying22 Tryz.sizeOf3 Tryz.zeroValue3 (by decide) (by decide) (by kernel_rfl) rfl rfl ?_
            have hh := hS29 
            rw [hF] at hh
            exact VA.to hh (by decide +kernel) (Le.mk hB [0] ⟨rfl, rfl, rfl, rfl, rfl, rfl, rfl, rfl, rfl, rfl, rfl, rfl, rfl, rfl, rfl, rfl, rfl, rfl, rfl, rfl, rfl, rfl, rfl, rfl, trivial⟩ rfl rfl (Nat.le_refl _))
        have hS38 : F 22 (lstB 67 [0, 1, 2, 3, 4, 5, 6, 7, 8, 9, 10, 11, 12, 13, 14, 16, 17, 18, 19, 20, 21, 22, 23, 24, 25, 27, 28, 29, 30, 31, 34, 35, 36, 37, 38, 41, 42, 43, 44, 45, 46, 47, 48, 49, 50]) ⟨[(0, sp p), (53, sp p), (64, sp p), (75, sp p), (82, sp p), (89, sp p), (48, (pO gr (0 + i * 5))), (49, (pO gr (0 + i * 5))), (50, (pO gr (0 + i * 5))), (51, (pO gr (0 + i * 5))), (52, (pO gr (0 + i * 5))), (57, avS (xO l i).key), (61, avS (xO l i).key), (68, avS (xO l i).product), (72, avS (xO l i).product), (79, avI (xO l i).count), (86, avI (xO l i).ready), (93, avI (xO l i).due), (97, avI (xO l i).due), (5, .v (.slice (some ⟨gr, 0, none⟩) l.length cap)), (62, (iO 4 [avS (xO l i).key, avS (xO l i).key, avS ⟨#[]⟩, avS ⟨#[111, 97]⟩])), (73, (iO 4 [avS (xO l i).product, avS (xO l i).product, avS ⟨#[122, 122]⟩, avS ⟨#[]⟩])), (98, (iO 3 [avI (xO l i).due, avI (xO l i).due, avI 345686400000]))], [.box gr ⟨rowL l, 104, cap * 5⟩], k + 1 + 4 * q + 1 + 1⟩ := by
          rw [hF]
          refine VA.all (rs := [15, 32, 39]) (by decide +kernel) (by decide) ?_
          refine ⟨⟨_, rfl, .inl rfl, ?_⟩, ⟨_, rfl, .inl rfl, ?_⟩, ⟨_, rfl, .inl rfl, ?_⟩, trivial⟩
          ·
            refine OpE.callT' (k + 1 + 4 * q + 1 + 1) rfl rfl hB rfl Tryz.call82 rfl (some_Q (by rfl) (by decide) (by decide) (AllQ.cons ⟨(hok.getD i).1, (hok.getD i).2.2⟩ (AllQ.cons ⟨(hok.getD i).1, (hok.getD i).2.2⟩ (AllQ.cons (by decide) (AllQ.cons (by decide) AllQ.nil))))) (by omega) ?_
            rintro _ ⟨r63, hr63, rfl⟩
            have hh := hS23 r63 hr63
            rw [hF] at hh
            exact VA.to hh (by decide +kernel) (Le.mk hB [0] ⟨rfl, rfl, rfl, rfl, rfl, rfl, rfl, rfl, rfl, rfl, rfl, rfl, rfl, rfl, rfl, rfl, rfl, rfl, rfl, rfl, rfl, rfl, rfl, rfl, trivial⟩ rfl rfl (Nat.le_refl _))
          ·
            refine OpE.buildSlice (zc := #[.int .i64 0, .int .i64 0, .int .i64 0]) rfl hB rfl Tryz.underlying22 Tryz.sizeOf3 Tryz.zeroValue3 (by decide) (by decide) (by kernel_rfl) rfl rfl ?_
            have hh := hS28 
            rw [hF] at hh
            exact VA.to hh (by decide +kernel) (Le.mk hB [0] ⟨rfl, rfl, rfl, rfl, rfl, rfl, rfl, rfl, rfl, rfl, rfl, rfl, rfl, rfl, rfl, rfl, rfl, rfl, rfl, rfl, rfl, rfl, rfl, rfl, trivial⟩ rfl rfl (Nat.le_refl _))
          ·
            refine OpE.buildSlice (zc := #[.int .i64 0, .int .i64 0, .int .i64 0]) rfl hB rfl Tryz.underlying22 Tryz.sizeOf3 Tryz.zeroValue3 (by decide) (by decide) (by kernel_rfl) rfl rfl ?_
            have hh := hS29 
            rw [hF] at hh
            exact VA.to hh (by decide +kernel) (Le.mk hB [0] ⟨rfl, rfl, rfl, rfl, rfl, rfl, rfl, rfl, rfl, rfl, rfl, rfl, rfl, rfl, rfl, rfl, rfl, rfl, rfl, rfl, rfl, rfl, rfl, rfl, trivial⟩ rfl rfl (Nat.le_refl _))
        have hS39 : F 22 (lstB 67 [0, 1, 2, 3, 4, 5, 6, 7, 8, 9, 10, 11, 12, 13, 14, 16, 17, 18, 19, 20, 21, 22, 23, 24, 27, 28, 29, 30, 31, 32, 34, 35, 36, 37, 38, 39, 41, 42, 43, 44, 45, 46, 47, 48, 49]) ⟨[(0, sp p), (53, sp p), (64, sp p), (75, sp p), (82, sp p), (89, sp p), (48, (pO gr (0 + i * 5))), (49, (pO gr (0 + i * 5))), (50, (pO gr (0 + i * 5))), (51, (pO gr (0 + i * 5))), (52, (pO gr (0 + i * 5))), (57, avS (xO l i).key), (61, avS (xO l i).key), (68, avS (xO l i).product), (72, avS (xO l i).product), (79, avI (xO l i).count), (86, avI (xO l i).ready), (93, avI (xO l i).due), (97, avI (xO l i).due), (5, .v (.slice (some ⟨gr, 0, none⟩) l.length cap)), (62, (iO 4 [avS (xO l i).key, avS (xO l i).key, avS ⟨#[]⟩, avS ⟨#[111, 97]⟩])), (80, (iO 3 [avI (xO l i).count, avI 0, avI 100001])), (87, (iO 3 [avI (xO l i).ready, avI (-1), avI 345686400000]))], [.box gr ⟨rowL l, 104, cap * 5⟩], k + 1 + 4 * q + 1 + 1⟩ := by
          rw [hF]
          refine VA.all (rs := [15, 25, 50]) (by decide +kernel) (by decide) ?_
          refine ⟨⟨_, rfl, .inl rfl, ?_⟩, ⟨_, rfl, .inl rfl, ?_⟩, ⟨_, rfl, .inl rfl, ?_⟩, trivial⟩
          ·
            refine OpE.callT' (k + 1 + 4 * q + 1 + 1) rfl rfl hB rfl Tryz.call82 rfl (some_Q (by rfl) (by decide) (by decide) (AllQ.cons ⟨(hok.getD i).1, (hok.getD i).2.2⟩ (AllQ.cons ⟨(hok.getD i).1, (hok.getD i).2.2⟩ (AllQ.cons (by decide) (AllQ.cons (by decide) AllQ.nil))))) (by omega) ?_
            rintro _ ⟨r63, hr63, rfl⟩
            have hh := hS24 r63 hr63
            rw [hF] at hh
            exact VA.to hh (by decide +kernel) (Le.mk hB [0] ⟨rfl, rfl, rfl, rfl, rfl, rfl, rfl, rfl, rfl, rfl, rfl, rfl, rfl, rfl, rfl, rfl, rfl, rfl, rfl, rfl, rfl, rfl, rfl, rfl, trivial⟩ rfl rfl (Nat.le_refl _))
          ·
            refine OpE.buildSlice (zc := #[.string ⟨#[]⟩, .string ⟨#[]⟩, .string ⟨#[]⟩, .string ⟨#[]⟩]) rfl hB rfl Tryz.underlying29 Tryz.sizeOf9 Tryz.zeroValue9 (by decide) (by decide) (by kernel_rfl) rfl rfl ?_
            have hh := hS27 
            rw [hF] at hh
            exact VA.to hh (by decide +kernel) (Le.mk hB [0] ⟨rfl, rfl, rfl, rfl, rfl, rfl, rfl, rfl, rfl, rfl, rfl, rfl, rfl, rfl, rfl, rfl, rfl, rfl, rfl, rfl, rfl, rfl, rfl, rfl, trivial⟩ rfl rfl (Nat.le_refl _))
          ·
            refine OpE.buildSlice (zc := #[.int .i64 0, .int .i64 0, .int .i64 0]) rfl hB rfl Tryz.underlying22 Tryz.sizeOf3 Tryz.zeroValue3 (by decide) (by decide) (by kernel_rfl) rfl rfl ?_
            have hh := hS30 
            rw [hF] at hh
            exact VA.to hh (by decide +kernel) (Le.mk hB [0] ⟨rfl, rfl, rfl, rfl, rfl, rfl, rfl, rfl, rfl, rfl, rfl, rfl, rfl, rfl, rfl, rfl, rfl, rfl, rfl, rfl, rfl, rfl, rfl, rfl, trivial⟩ rfl rfl (Nat.le_refl _))
        have hS40 : F 22 (lstB 67 [0, 1, 2, 3, 4, 5, 6, 7, 8, 9, 10, 11, 12, 13, 14, 16, 17, 18, 19, 20, 21, 22, 23, 24, 27, 28, 29, 30, 31, 32, 34, 35, 36, 37, 38, 41, 42, 43, 44, 45, 46, 47, 48, 49, 50]) ⟨[(0, sp p), (53, sp p), (64, sp p), (75, sp p), (82, sp p), (89, sp p), (48, (pO gr (0 + i * 5))), (49, (pO gr (0 + i * 5))), (50, (pO gr (0 + i * 5))), (51, (pO gr (0 + i * 5))), (52, (pO gr (0 + i * 5))), (57, avS (xO l i).key), (61, avS (xO l i).key), (68, avS (xO l i).product), (72, avS (xO l i).product), (79, avI (xO l i).count), (86, avI (xO l i).ready), (93, avI (xO l i).due), (97, avI (xO l i).due), (5, .v (.slice (some ⟨gr, 0, none⟩) l.length cap)), (62, (iO 4 [avS (xO l i).key, avS (xO l i).key, avS ⟨#[]⟩, avS ⟨#[111, 97]⟩])), (80, (iO 3 [avI (xO l i).count, avI 0, avI 100001])), (98, (iO 3 [avI (xO l i).due, avI (xO l i).due, avI 345686400000]))], [.box gr ⟨rowL l, 104, cap * 5⟩], k + 1 + 4 * q + 1 + 1⟩ := by
          rw [hF]
          refine VA.all (rs := [15, 25, 39]) (by decide +kernel) (by decide) ?_
          refine ⟨⟨_, rfl, .inl rfl, ?_⟩, ⟨_, rfl, .inl rfl, ?_⟩, ⟨_, rfl, .inl rfl, ?_⟩, trivial⟩
          ·
            refine OpE.callT' (k + 1 + 4 * q + 1 + 1) rfl rfl hB rfl Tryz.call82 rfl (some_Q (by rfl) (by decide) (by decide) (AllQ.cons ⟨(hok.getD i).1, (hok.getD i).2.2⟩ (AllQ.cons ⟨(hok.getD i).1, (hok.getD i).2.2⟩ (AllQ.cons (by decide) (AllQ.cons (by decide) AllQ.nil))))) (by omega) ?_
            rintro _ ⟨r63, hr63, rfl⟩
            have hh := hS25 r63 hr63
            rw [hF] at hh
            exact VA.to hh (by decide +kernel) (Le.mk hB [0] ⟨rfl, rfl, rfl, rfl, rfl, rfl, rfl, rfl, rfl, rfl, rfl, rfl, rfl, rfl, rfl, rfl, rfl, rfl, rfl, rfl, rfl, rfl, rfl, rfl, trivial⟩ rfl rfl (Nat.le_refl _))
          ·
            refine OpE.buildSlice (zc := #[.string ⟨#[]⟩, .string ⟨#[]⟩, .string ⟨#[]⟩, .string ⟨#[]⟩]) rfl hB rfl Tryz.underlying29 Tryz.sizeOf9 Tryz.zeroValue9 (by decide) (by decide) (by kernel_rfl) rfl rfl ?_
            have hh := hS28 
            rw [hF] at hh
            exact VA.to hh (by decide +kernel) (Le.mk hB [0] ⟨rfl, rfl, rfl, rfl, rfl, rfl, rfl, rfl, rfl, rfl, rfl, rfl, rfl, rfl, rfl, rfl, rfl, rfl, rfl, rfl, rfl, rfl, rfl, rfl, trivial⟩ rfl rfl (Nat.le_refl _))
          ·
            refine OpE.buildSlice (zc := #[.int .i64 0, .int .i64 0, .int .i64 0]) rfl hB rfl Tryz.underlying22 Tryz.sizeOf3 Tryz.zeroValue3 (by decide) (by decide) (by kernel_rfl) rfl rfl ?_
            have hh := hS30 
            rw [hF] at hh
            exact VA.to hh (by decide +kernel) (Le.mk hB [0] ⟨rfl, rfl, rfl, rfl, rfl, rfl, rfl, rfl, rfl, rfl, rfl, rfl, rfl, rfl, rfl, rfl, rfl, rfl, rfl, rfl, rfl, rfl, rfl, rfl, trivial⟩ rfl rfl (Nat.le_refl _))
        have hS41 : F 22 (lstB 67 [0, 1, 2, 3, 4, 5, 6, 7, 8, 9, 10, 11, 12, 13, 14, 16, 17, 18, 19, 20, 21, 22, 23, 24, 27, 28, 29, 30, 31, 34, 35, 36, 37, 38, 39, 41, 42, 43, 44, 45, 46, 47, 48, 49, 50]) ⟨[(0, sp p), (53, sp p), (64, sp p), (75, sp p), (82, sp p), (89, sp p), (48, (pO gr (0 + i * 5))), (49, (pO gr (0 + i * 5))), (50, (pO gr (0 + i * 5))), (51, (pO gr (0 + i * 5))), (52, (pO gr (0 + i * 5))), (57, avS (xO l i).key), (61, avS (xO l i).key), (68, avS (xO l i).product), (72, avS (xO l i).product), (79, avI (xO l i).count), (86, avI (xO l i).ready), (93, avI (xO l i).due), (97, avI (xO l i).due), (5, .v (.slice (some ⟨gr, 0, none⟩) l.length cap)), (62, (iO 4 [avS (xO l i).key, avS (xO l i).key, avS ⟨#[]⟩, avS ⟨#[111, 97]⟩])), (87, (iO 3 [avI (xO l i).ready, avI (-1), avI 345686400000])), (98, (iO 3 [avI (xO l i).due, avI (xO l i).due, avI 345686400000]))], [.box gr ⟨rowL l, 104, cap * 5⟩], k + 1 + 4 * q + 1 + 1⟩ := by
          rw [hF]
          refine VA.all (rs := [15, 25, 32]) (by decide +kernel) (by decide) ?_
          refine ⟨⟨_, rfl, .inl rfl, ?_⟩, ⟨_, rfl, .inl rfl, ?_⟩, ⟨_, rfl, .inl rfl, ?_⟩, trivial⟩
          ·
            refine OpE.callT' (k + 1 + 4 * q + 1 + 1) rfl rfl hB rfl Tryz.call82 rfl (some_Q (by rfl) (by decide) (by decide) (AllQ.cons ⟨(hok.getD i).1, (hok.getD i).2.2⟩ (AllQ.cons ⟨(hok.getD i).1, (hok.getD i).2.2⟩ (AllQ.cons (by decide) (AllQ.cons (by decide) AllQ.nil))))) (by omega) ?_
            rintro _ ⟨r63, hr63, rfl⟩
            have hh := hS26 r63 hr63
            rw [hF] at hh
            exact VA.to hh (by decide +kernel) (Le.mk hB [0] ⟨rfl, rfl, rfl, rfl, rfl, rfl, rfl, rfl, rfl, rfl, rfl, rfl, rfl, rfl, rfl, rfl, rfl, rfl, rfl, rfl, rfl, rfl, rfl, rfl, trivial⟩ rfl rfl (Nat.le_refl _))
          ·
            refine OpE.buildSlice (zc := #[.string ⟨#[]⟩, .string ⟨#[]⟩, .string ⟨#[]⟩, .string ⟨#[]⟩]) rfl hB rfl Tryz.underlying29 Tryz.sizeOf9 Tryz.zeroValue9 (by decide) (by decide) (by kernel_rfl) rfl rfl ?_
            have hh := hS29 
            rw [hF] at hh
            exact VA.to hh (by decide +kernel) (Le.mk hB [0] ⟨rfl, rfl, rfl, rfl, rfl, rfl, rfl, rfl, rfl, rfl, rfl, rfl, rfl, rfl, rfl, rfl, rfl, rfl, rfl, rfl, rfl, rfl, rfl, rfl, trivial⟩ rfl rfl (Nat.le_refl _))
          ·
            refine OpE.buildSlice (zc := #[.int .i64 0, .int .i64 0, .int .i64 0]) rfl hB rfl Tryz.underlying22 Tryz.sizeOf3 Tryz.zeroValue3 (by decide) (by decide) (by kernel_rfl) rfl rfl ?_
            have hh := hS30 
            rw [hF] at hh
            exact VA.to hh (by decide +kernel) (Le.mk hB [0] ⟨rfl, rfl, rfl, rfl, rfl, rfl, rfl, rfl, rfl, rfl, rfl, rfl, rfl, rfl, rfl, rfl, rfl, rfl, rfl, rfl, rfl, rfl, rfl, rfl, trivial⟩ rfl rfl (Nat.le_refl _))
        have hS42 : F 22 (lstB 67 [0, 1, 2, 3, 4, 5, 6, 7, 8, 9, 10, 11, 12, 13, 16, 17, 18, 19, 20, 21, 22, 23, 24, 25, 27, 28, 29, 30, 31, 32, 34, 35, 36, 37, 38, 39, 41, 42, 43, 44, 45, 46, 47, 48, 49]) ⟨[(0, sp p), (53, sp p), (64, sp p), (75, sp p), (82, sp p), (89, sp p), (48, (pO gr (0 + i * 5))), (49, (pO gr (0 + i * 5))), (50, (pO gr (0 + i * 5))), (51, (pO gr (0 + i * 5))), (52, (pO gr (0 + i * 5))), (57, avS (xO l i).key), (61, avS (xO l i).key), (68, avS (xO l i).product), (72, avS (xO l i).product), (79, avI (xO l i).count), (86, avI (xO l i).ready), (93, avI (xO l i).due), (97, avI (xO l i).due), (5, .v (.slice (some ⟨gr, 0, none⟩) l.length cap)), (73, (iO 4 [avS (xO l i).product, avS (xO l i).product, avS ⟨#[122, 122]⟩, avS ⟨#[]⟩])), (80, (iO 3 [avI (xO l i).count, avI 0, avI 100001])), (87, (iO 3 [avI (xO l i).ready, avI (-1), avI 345686400000]))], [.box gr ⟨rowL l, 104, cap * 5⟩], k + 1 + 4 * q + 1 + 1⟩ := by
          rw [hF]
          refine VA.all (rs := [14, 50]) (by decide +kernel) (by decide) ?_
          refine ⟨⟨_, rfl, .inl rfl, ?_⟩, ⟨_, rfl, .inl rfl, ?_⟩, trivial⟩
          ·
            refine OpE.buildSlice (zc := #[.string ⟨#[]⟩, .string ⟨#[]⟩, .string ⟨#[]⟩, .string ⟨#[]⟩]) rfl hB rfl Tryz.underlying29 Tryz.sizeOf9 Tryz.zeroValue9 (by decide) (by decide) (by kernel_rfl) rfl rfl ?_
            have hh := hS27 
            rw [hF] at hh
            exact VA.to hh (by decide +kernel) (Le.mk hB [0] ⟨rfl, rfl, rfl, rfl, rfl, rfl, rfl, rfl, rfl, rfl, rfl, rfl, rfl, rfl, rfl, rfl, rfl, rfl, rfl, rfl, rfl, rfl, rfl, rfl, trivial⟩ rfl rfl (Nat.le_refl _))
          ·
            refine OpE.buildSlice (zc := #[.int .i64 0, .int .i64 0, .int .i64 0]) rfl hB rfl Tryz.underlying22 Tryz.sizeOf3 Tryz.zeroValue3 (by decide) (by decide) (by kernel_rfl) rfl rfl ?_
            have hh := hS31 
            rw [hF] at hh
            exact VA.to hh (by decide +kernel) (Le.mk hB [0] ⟨rfl, rfl, rfl, rfl, rfl, rfl, rfl, rfl, rfl, rfl, rfl, rfl, rfl, rfl, rfl, rfl, rfl, rfl, rfl, rfl, rfl, rfl, rfl, rfl, trivial⟩ rfl rfl (Nat.le_refl _))
        have hS43 : F 22 (lstB 67 [0, 1, 2, 3, 4, 5, 6, 7, 8, 9, 10, 11, 12, 13, 16, 17, 18, 19, 20, 21, 22, 23, 24, 25, 27, 28, 29, 30, 31, 32, 34, 35, 36, 37, 38, 41, 42, 43, 44, 45, 46, 47, 48, 49, 50]) ⟨[(0, sp p), (53, sp p), (64, sp p), (75, sp p), (82, sp p), (89, sp p), (48, (pO gr (0 + i * 5))), (49, (pO gr (0 + i * 5))), (50, (pO gr (0 + i * 5))), (51, (pO gr (0 + i * 5))), (52, (pO gr (0 + i * 5))), (57, avS (xO l i).key), (61, avS (xO l i).key), (68, avS (xO l i).product), (72, avS (xO l i).product), (79, avI (xO l i).count), (86, avI (xO l i).ready), (93, avI (xO l i).due), (97, avI (xO l i).due), (5, .v (.slice (some ⟨gr, 0, none⟩) l.length cap)), (73, (iO 4 [avS (xO l i).product, avS (xO l i).product, avS ⟨#[122, 122]⟩, avS ⟨#[]⟩])), (80, (iO 3 [avI (xO l i).count, avI 0, avI 100001])), (98, (iO 3 [avI (xO l i).due, avI (xO l i).due, avI 345686400000]))], [.box gr ⟨rowL l, 104, cap * 5⟩], k + 1 + 4 * q + 1 + 1⟩ := by
          rw [hF]
          refine VA.all (rs := [14, 39]) (by decide +kernel) (by decide) ?_
          refine ⟨⟨_, rfl, .inl rfl, ?_⟩, ⟨_, rfl, .inl rfl, ?_⟩, trivial⟩
          ·
            refine OpE.buildSlice (zc := #[.string ⟨#[]⟩, .string ⟨#[]⟩, .string ⟨#[]⟩, .string ⟨#[]⟩]) rfl hB rfl Tryz.underlying29 Tryz.sizeOf9 Tryz.zeroValue9 (by decide) (by decide) (by kernel_rfl) rfl rfl ?_
            have hh := hS28 
            rw [hF] at hh
            exact VA.to hh (by decide +kernel) (Le.mk hB [0] ⟨rfl, rfl, rfl, rfl, rfl, rfl, rfl, rfl, rfl, rfl, rfl, rfl, rfl, rfl, rfl, rfl, rfl, rfl, rfl, rfl, rfl, rfl, rfl, rfl, trivial⟩ rfl rfl (Nat.le_refl _))
          ·
            refine OpE.buildSlice (zc := #[.int .i64 0, .int .i64 0, .int .i64 0]) rfl hB rfl Tryz.underlying22 Tryz.sizeOf3 Tryz.zeroValue3 (by decide) (by decide) (by kernel_rfl) rfl rfl ?_
            have hh := hS31 
            rw [hF] at hh
            exact VA.to hh (by decide +kernel) (Le.mk hB [0] ⟨rfl, rfl, rfl, rfl, rfl, rfl, rfl, rfl, rfl, rfl, rfl, rfl, rfl, rfl, rfl, rfl, rfl, rfl, rfl, rfl, rfl, rfl, rfl, rfl, trivial⟩ rfl rfl (Nat.le_refl _))
        have hS44 : F 22 (lstB 67 [0, 1, 2, 3, 4, 5, 6, 7, 8, 9, 10, 11, 12, 13, 16, 17, 18, 19, 20, 21, 22, 23, 24, 25, 27, 28, 29, 30, 31, 34, 35, 36, 37, 38, 39, 41, 42, 43, 44, 45, 46, 47, 48, 49, 50]) ⟨[(0, sp p), (53, sp p), (64, sp p), (75, sp p), (82, sp p), (89, sp p), (48, (pO gr (0 + i * 5))), (49, (pO gr (0 + i * 5))), (50, (pO gr (0 + i * 5))), (51, (pO gr (0 + i * 5))), (52, (pO gr (0 + i * 5))), (57, avS (xO l i).key), (61, avS (xO l i).key), (68, avS (xO l i).product), (72, avS (xO l i).product), (79, avI (xO l i).count), (86, avI (xO l i).ready), (93, avI (xO l i).due), (97, avI (xO l i).due), (5, .v (.slice (some ⟨gr, 0, none⟩) l.length cap)), (73, (iO 4 [avS (xO l i).product, avS (xO l i).product, avS ⟨#[122, 122]⟩, avS ⟨#[]⟩])), (87, (iO 3 [avI (xO l i).ready, avI (-1), avI 345686400000])), (98, (iO 3 [avI (xO l i).due, avI (xO l i).due, avI 345686400000]))], [.box gr ⟨rowL l, 104, cap * 5⟩], k + 1 + 4 * q + 1 + 1⟩ := by
          rw [hF]
          refine VA.all (rs := [14, 32]) (by decide +kernel) (by decide) ?_
          refine ⟨⟨_, rfl, .inl rfl, ?_⟩, ⟨_, rfl, .inl rfl, ?_⟩, trivial⟩
          ·
            refine OpE.buildSlice (zc := #[.string ⟨#[]⟩, .string ⟨#[]⟩, .string ⟨#[]⟩, .string ⟨#[]⟩]) rfl hB rfl Tryz.underlying29 Tryz.sizeOf9 Tryz.zeroValue9 (by decide) (by decide) (by kernel_rfl) rfl rfl ?_
            have hh := hS29 
            rw [hF] at hh
            exact VA.to hh (by decide +kernel) (Le.mk hB [0] ⟨rfl, rfl, rfl, rfl, rfl, rfl, rfl, rfl, rfl, rfl, rfl, rfl, rfl, rfl, rfl, rfl, rfl, rfl, rfl, rfl, rfl, rfl, rfl, rfl, trivial⟩ rfl rfl (Nat.le_refl _))
          ·
            refine OpE.buildSlice (zc := #[.int .i64 0, .int .i64 0, .int .i64 0]) rfl hB rfl Tryz.underlying22 Tryz.sizeOf3 Tryz.zeroValue3 (by decide) (by decide) (by kernel_rfl) rfl rfl ?_
            have hh := hS31 
            rw [hF] at hh
            exact VA.to hh (by decide +kernel) (Le.mk hB [0] ⟨rfl, rfl, rfl, rfl, rfl, rfl, rfl, rfl, rfl, rfl, rfl, rfl, rfl, rfl, rfl, rfl, rfl, rfl, rfl, rfl, rfl, rfl, rfl, rfl, trivial⟩ rfl rfl (Nat.le_refl _))
        have hS45 : F 22 (lstB 67 [0, 1, 2, 3, 4, 5, 6, 7, 8, 9, 10, 11, 12, 13, 16, 17, 18, 19, 20, 21, 22, 23, 24, 27, 28, 29, 30, 31, 32, 34, 35, 36, 37, 38, 39, 41, 42, 43, 44, 45, 46, 47, 48, 49, 50]) ⟨[(0, sp p), (53, sp p), (64, sp p), (75, sp p), (82, sp p), (89, sp p), (48, (pO gr (0 + i * 5))), (49, (pO gr (0 + i * 5))), (50, (pO gr (0 + i * 5))), (51, (pO gr (0 + i * 5))), (52, (pO gr (0 + i * 5))), (57, avS (xO l i).key), (61, avS (xO l i).key), (68, avS (xO l i).product), (72, avS (xO l i).product), (79, avI (xO l i).count), (86, avI (xO l i).ready), (93, avI (xO l i).due), (97, avI (xO l i).due), (5, .v (.slice (some ⟨gr, 0, none⟩) l.length cap)), (80, (iO 3 [avI (xO l i).count, avI 0, avI 100001])), (87, (iO 3 [avI (xO l i).ready, avI (-1), avI 345686400000])), (98, (iO 3 [avI (xO l i).due, avI (xO l i).due, avI 345686400000]))], [.box gr ⟨rowL l, 104, cap * 5⟩], k + 1 + 4 * q + 1 + 1⟩ := by
          rw [hF]
          refine VA.all (rs := [14, 25]) (by decide +kernel) (by decide) ?_
          refine ⟨⟨_, rfl, .inl rfl, ?_⟩, ⟨_, rfl, .inl rfl, ?_⟩, trivial⟩
          ·
            refine OpE.buildSlice (zc := #[.string ⟨#[]⟩, .string ⟨#[]⟩, .string ⟨#[]⟩, .string ⟨#[]⟩]) rfl hB rfl Tryz.underlying29 Tryz.sizeOf9 Tryz.zeroValue9 (by decide) (by decide) (by kernel_rfl) rfl rfl ?_
            have hh := hS30 
            rw [hF] at hh
            exact VA.to hh (by decide +kernel) (Le.mk hB [0] ⟨rfl, rfl, rfl, rfl, rfl, rfl, rfl, rfl, rfl, rfl, rfl, rfl, rfl, rfl, rfl, rfl, rfl, rfl, rfl, rfl, rfl, rfl, rfl, rfl, trivial⟩ rfl rfl (Nat.le_refl _))
          ·
            refine OpE.buildSlice (zc := #[.string ⟨#[]⟩, .string ⟨#[]⟩, .string ⟨#[]⟩, .string ⟨#[]⟩]) rfl hB rfl Tryz.underlying29 Tryz.sizeOf9 Tryz.zeroValue9 (by decide) (by decide) (by kernel_rfl) rfl rfl ?_
            have hh := hS31 
            rw [hF] at hh
            exact VA.to hh (by decide +kernel) (Le.mk hB [0] ⟨rfl, rfl, rfl, rfl, rfl, rfl, rfl, rfl, rfl, rfl, rfl, rfl, rfl, rfl, rfl, rfl, rfl, rfl, rfl, rfl, rfl, rfl, rfl, rfl, trivial⟩ rfl rfl (Nat.le_refl _))
        have hS46 : ∀ (r63 : ByteArray) (hr63 : r63.size ≤ 1000 ∧ r63 ≠ ozK), F 23 (lstB 67 [0, 1, 2, 3, 4, 5, 6, 7, 8, 9, 10, 11, 12, 13, 14, 15, 16, 17, 18, 19, 20, 21, 22, 23, 24, 27, 28, 29, 30, 31, 34, 35, 36, 37, 38, 41, 42, 43, 44, 45, 46, 47, 48, 49]) ⟨[(0, sp p), (53, sp p), (64, sp p), (75, sp p), (82, sp p), (89, sp p), (48, (pO gr (0 + i * 5))), (49, (pO gr (0 + i * 5))), (50, (pO gr (0 + i * 5))), (51, (pO gr (0 + i * 5))), (52, (pO gr (0 + i * 5))), (57, avS (xO l i).key), (61, avS (xO l i).key), (68, avS (xO l i).product), (72, avS (xO l i).product), (79, avI (xO l i).count), (86, avI (xO l i).ready), (93, avI (xO l i).due), (97, avI (xO l i).due), (5, .v (.slice (some ⟨gr, 0, none⟩) l.length cap)), (62, (iO 4 [avS (xO l i).key, avS (xO l i).key, avS ⟨#[]⟩, avS ⟨#[111, 97]⟩])), (63, avS r63)], [.box gr ⟨rowL l, 104, cap * 5⟩], k + 1 + 4 * q + 1 + 1 + 1⟩ := by
          intro r63 hr63
          rw [hF]
          refine VA.all (rs := [25, 32, 39, 50]) (by decide +kernel) (by decide) ?_
          refine ⟨⟨_, rfl, .inl rfl, ?_⟩, ⟨_, rfl, .inl rfl, ?_⟩, ⟨_, rfl, .inl rfl, ?_⟩, ⟨_, rfl, .inl rfl, ?_⟩, trivial⟩
          ·
            refine OpE.buildSlice (zc := #[.string ⟨#[]⟩, .string ⟨#[]⟩, .string ⟨#[]⟩, .string ⟨#[]⟩]) rfl hB rfl Tryz.underlying29 Tryz.sizeOf9 Tryz.zeroValue9 (by decide) (by decide) (by kernel_rfl) rfl rfl ?_
            have hh := hS32 r63 hr63
            rw [hF] at hh
            exact VA.to hh (by decide +kernel) (Le.mk hB [0] ⟨rfl, rfl, rfl, rfl, rfl, rfl, rfl, rfl, rfl, rfl, rfl, rfl, rfl, rfl, rfl, rfl, rfl, rfl, rfl, rfl, rfl, rfl, rfl, trivial⟩ rfl rfl (Nat.le_refl _))
          ·
            refine OpE.buildSlice (zc := #[.int .i64 0, .int .i64 0, .int .i64 0]) rfl hB rfl Tryz.underlying22 Tryz.sizeOf3 Tryz.zeroValue3 (by decide) (by decide) (by kernel_rfl) rfl rfl ?_
            have hh := hS33 r63 hr63
            rw [hF] at hh
            exact VA.to hh (by decide +kernel) (Le.mk hB [0] ⟨rfl, rfl, rfl, rfl, rfl, rfl, rfl, rfl, rfl, rfl, rfl, rfl, rfl, rfl, rfl, rfl, rfl, rfl, rfl, rfl, rfl, rfl, rfl, trivial⟩ rfl rfl (Nat.le_refl _))
          ·
            refine OpE.buildSlice (zc := #[.int .i64 0, .int .i64 0, .int .i64 0]) rfl hB rfl Tryz.underlying22 Tryz.sizeOf3 Tryz.zeroValue3 (by decide) (by decide) (by kernel_rfl) rfl rfl ?_
            have hh := hS34 r63 hr63
            rw [hF] at hh
            exact VA.to hh (by decide +kernel) (Le.mk hB [0] ⟨rfl, rfl, rfl, rfl, rfl, rfl, rfl, rfl, rfl, rfl, rfl, rfl, rfl, rfl, rfl, rfl, rfl, rfl, rfl, rfl, rfl, rfl, rfl, trivial⟩ rfl rfl (Nat.le_refl _))
          ·
            refine OpE.buildSlice (zc := #[.int .i64 0, .int .i64 0, .int .i64 0]) rfl hB rfl Tryz.underlying22 Tryz.sizeOf3 Tryz.zeroValue3 (by decide) (by decide) (by kernel_rfl) rfl rfl ?_
            have hh := hS35 r63 hr63
            rw [hF] at hh
            exact VA.to hh (by decide +kernel) (Le.mk hB [0] ⟨rfl, rfl, rfl, rfl, rfl, rfl, rfl, rfl, rfl, rfl, rfl, rfl, rfl, rfl, rfl, rfl, rfl, rfl, rfl, rfl, rfl, rfl, rfl, trivial⟩ rfl rfl (Nat.le_refl _))
        have hS47 : F 23 (lstB 67 [0, 1, 2, 3, 4, 5, 6, 7, 8, 9, 10, 11, 12, 13, 14, 16, 17, 18, 19, 20, 21, 22, 23, 24, 25, 27, 28, 29, 30, 31, 34, 35, 36, 37, 38, 41, 42, 43, 44, 45, 46, 47, 48, 49]) ⟨[(0, sp p), (53, sp p), (64, sp p), (75, sp p), (82, sp p), (89, sp p), (48, (pO gr (0 + i * 5))), (49, (pO gr (0 + i * 5))), (50, (pO gr (0 + i * 5))), (51, (pO gr (0 + i * 5))), (52, (pO gr (0 + i * 5))), (57, avS (xO l i).key), (61, avS (xO l i).key), (68, avS (xO l i).product), (72, avS (xO l i).product), (79, avI (xO l i).count), (86, avI (xO l i).ready), (93, avI (xO l i).due), (97, avI (xO l i).due), (5, .v (.slice (some ⟨gr, 0, none⟩) l.length cap)), (62, (iO 4 [avS (xO l i).key, avS (xO l i).key, avS ⟨#[]⟩, avS ⟨#[111, 97]⟩])), (73, (iO 4 [avS (xO l i).product, avS (xO l i).product, avS ⟨#[122, 122]⟩, avS ⟨#[]⟩]))], [.box gr ⟨rowL l, 104, cap * 5⟩], k + 1 + 4 * q + 1 + 1⟩ := by
          rw [hF]
          refine VA.all (rs := [15, 32, 39, 50]) (by decide +kernel) (by decide) ?_
          refine ⟨⟨_, rfl, .inl rfl, ?_⟩, ⟨_, rfl, .inl rfl, ?_⟩, ⟨_, rfl, .inl rfl, ?_⟩, ⟨_, rfl, .inl rfl, ?_⟩, trivial⟩
          ·
            refine OpE.callT' (k + 1 + 4 * q + 1 + 1) rfl rfl hB rfl Tryz.call82 rfl (some_Q (by rfl) (by decide) (by decide) (AllQ.cons ⟨(hok.getD i).1, (hok.getD i).2.2⟩ (AllQ.cons ⟨(hok.getD i).1, (hok.getD i).2.2⟩ (AllQ.cons (by decide) (AllQ.cons (by decide) AllQ.nil))))) (by omega) ?_
            rintro _ ⟨r63, hr63, rfl⟩
            have hh := hS32 r63 hr63
            rw [hF] at hh
            exact VA.to hh (by decide +kernel) (Le.mk hB [0] ⟨rfl, rfl, rfl, rfl, rfl, rfl, rfl, rfl, rfl, rfl, rfl, rfl, rfl, rfl, rfl, rfl, rfl, rfl, rfl, rfl, rfl, rfl, rfl, trivial⟩ rfl rfl (Nat.le_refl _))
          ·
            refine OpE.buildSlice (zc := #[.int .i64 0, .int .i64 0, .int .i64 0]) rfl hB rfl Tryz.underlying22 Tryz.sizeOf3 Tryz.zeroValue3 (by decide) (by decide) (by kernel_rfl) rfl rfl ?_
            have hh := hS36 
            rw [hF] at hh
            exact VA.to hh (by decide +kernel) (Le.mk hB [0] ⟨rfl, rfl, rfl, rfl, rfl, rfl, rfl, rfl, rfl, rfl, rfl, rfl, rfl, rfl, rfl, rfl, rfl, rfl, rfl, rfl, rfl, rfl, rfl, trivial⟩ rfl rfl (Nat.le_refl _))
          ·
            refine OpE.buildSlice (zc := #[.int .i64 0, .int .i64 0, .int .i64 0]) rfl hB rfl Tryz.underlying22 Tryz.sizeOf3 Tryz.zeroValue3 (by decide) (by decide) (by kernel_rfl) rfl rfl ?_
            have hh := hS37 
            rw [hF] at hh
            exact VA.to hh (by decide +kernel) (Le.mk hB [0] ⟨rfl, rfl, rfl, rfl, rfl, rfl, rfl, rfl, rfl, rfl, rfl, rfl, rfl, rfl, rfl, rfl, rfl, rfl, rfl, rfl, rfl, rfl, rfl, trivial⟩ rfl rfl (Nat.le_refl _))
          ·
            refine OpE.buildSlice (zc := #[.int .i64 0, .int .i64 0, .int .i64 0]) rfl hB rfl Tryz.underlying22 Tryz.sizeOf3 Tryz.zeroValue3 (by decide) (by decide) (by kernel_rfl) rfl rfl ?_
            have hh := hS38 
            rw [hF] at hh
            exact VA.to hh (by decide +kernel) (Le.mk hB [0] ⟨rfl, rfl, rfl, rfl, rfl, rfl, rfl, rfl, rfl, rfl, rfl, rfl, rfl, rfl, rfl, rfl, rfl, rfl, rfl, rfl, rfl, rfl, rfl, trivial⟩ rfl rfl (Nat.le_refl _))
        have hS48 : F 23 (lstB 67 [0, 1, 2, 3, 4, 5, 6, 7, 8, 9, 10, 11, 12, 13, 14, 16, 17, 18, 19, 20, 21, 22, 23, 24, 27, 28, 29, 30, 31, 32, 34, 35, 36, 37, 38, 41, 42, 43, 44, 45, 46, 47, 48, 49]) ⟨[(0, sp p), (53, sp p), (64, sp p), (75, sp p), (82, sp p), (89, sp p), (48, (pO gr (0 + i * 5))), (49, (pO gr (0 + i * 5))), (50, (pO gr (0 + i * 5))), (51, (pO gr (0 + i * 5))), (52, (pO gr (0 + i * 5))), (57, avS (xO l i).key), (61, avS (xO l i).key), (68, avS (xO l i).product), (72, avS (xO l i).product), (79, avI (xO l i).count), (86, avI (xO l i).ready), (93, avI (xO l i).due), (97, avI (xO l i).due), (5, .v (.slice (some ⟨gr, 0, none⟩) l.length cap)), (62, (iO 4 [avS (xO l i).key, avS (xO l i).key, avS ⟨#[]⟩, avS ⟨#[111, 97]⟩])), (80, (iO 3 [avI (xO l i).count, avI 0, avI 100001]))], [.box gr ⟨rowL l, 104, cap * 5⟩], k + 1 + 4 * q + 1 + 1⟩ := by
          rw [hF]
          refine VA.all (rs := [15, 25, 39, 50]) (by decide +kernel) (by decide) ?_
          refine ⟨⟨_, rfl, .inl rfl, ?_⟩, ⟨_, rfl, .inl rfl, ?_⟩, ⟨_, rfl, .inl rfl, ?_⟩, ⟨_, rfl, .inl rfl, ?_⟩, trivial⟩
          ·
            refine OpE.callT' (k + 1 + 4 * q + 1 + 1) rfl rfl hB rfl Tryz.call82 rfl (some_Q (by rfl) (by decide) (by decide) (AllQ.cons ⟨(hok.getD i).1, (hok.getD i).2.2⟩ (AllQ.cons ⟨(hok.getD i).1, (hok.getD i).2.2⟩ (AllQ.cons (by decide) (AllQ.cons (by decide) AllQ.nil))))) (by omega) ?_
            rintro _ ⟨r63, hr63, rfl⟩
            have hh := hS33 r63 hr63
            rw [hF] at hh
            exact VA.to hh (by decide +kernel) (Le.mk hB [0] ⟨rfl, rfl, rfl, rfl, rfl, rfl, rfl, rfl, rfl, rfl, rfl, rfl, rfl, rfl, rfl, rfl, rfl, rfl, rfl, rfl, rfl, rfl, rfl, trivial⟩ rfl rfl (Nat.le_refl _))
          ·
            refine OpE.buildSlice (zc := #[.string ⟨#[]⟩, .string ⟨#[]⟩, .string ⟨#[]⟩, .string ⟨#[]⟩]) rfl hB rfl Tryz.underlying29 Tryz.sizeOf9 Tryz.zeroValue9 (by decide) (by decide) (by kernel_rfl) rfl rfl ?_
            have hh := hS36 
            rw [hF] at hh
            exact VA.to hh (by decide +kernel) (Le.mk hB [0] ⟨rfl, rfl, rfl, rfl, rfl, rfl, rfl, rfl, rfl, rfl, rfl, rfl, rfl, rfl, rfl, rfl, rfl, rfl, rfl, rfl, rfl, rfl, rfl, trivial⟩ rfl rfl (Nat.le_refl _))
          ·
            refine OpE.buildSlice (zc := #[.int .i64 0, .int .i64 0, .int .i64 0]) rfl hB rfl Tryz.underlying22 Tryz.sizeOf3 Tryz.zeroValue3 (by decide) (by decide) (by kernel_rfl) rfl rfl ?_
            have hh := hS39 
            rw [hF] at hh
            exact VA.to hh (by decide +kernel) (Le.mk hB [0] ⟨rfl, rfl, rfl, rfl, rfl, rfl, rfl, rfl, rfl, rfl, rfl, rfl, rfl, rfl, rfl, rfl, rfl, rfl, rfl, rfl, rfl, rfl, rfl, trivial⟩ rfl rfl (Nat.le_refl _))
          ·
            refine OpE.buildSlice (zc := #[.int .i64 0, .int .i64 0, .int .i64 0]) rfl hB rfl Tryz.underlying22 Tryz.sizeOf3 Tryz.zeroValue3 (by decide) (by decide) (by kernel_rfl) rfl rfl ?_
            have hh := hS40 
            rw [hF] at hh
            exact VA.to hh (by decide +kernel) (Le.mk hB [0] ⟨rfl, rfl, rfl, rfl, rfl, rfl, rfl, rfl, rfl, rfl, rfl, rfl, rfl, rfl, rfl, rfl, rfl, rfl, rfl, rfl, rfl, rfl, rfl, trivial⟩ rfl rfl (Nat.le_refl _))
        have hS49 : F 23 (lstB 67 [0, 1, 2, 3, 4, 5, 6, 7, 8, 9, 10, 11, 12, 13, 14, 16, 17, 18, 19, 20, 21, 22, 23, 24, 27, 28, 29, 30, 31, 34, 35, 36, 37, 38, 39, 41, 42, 43, 44, 45, 46, 47, 48, 49]) ⟨[(0, sp p), (53, sp p), (64, sp p), (75, sp p), (82, sp p), (89, sp p), (48, (pO gr (0 + i * 5))), (49, (pO gr (0 + i * 5))), (50, (pO gr (0 + i * 5))), (51, (pO gr (0 + i * 5))), (52, (pO gr (0 + i * 5))), (57, avS (xO l i).key), (61, avS (xO l i).key), (68, avS (xO l i).product), (72, avS (xO l i).product), (79, avI (xO l i).count), (86, avI (xO l i).ready), (93, avI (xO l i).due), (97, avI (xO l i).due), (5, .v (.slice (some ⟨gr, 0, none⟩) l.length cap)), (62, (iO 4 [avS (xO l i).key, avS (xO l i).key, avS ⟨#[]⟩, avS ⟨#[111, 97]⟩])), (87, (iO 3 [avI (xO l i).ready, avI (-1), avI 345686400000]))], [.box gr ⟨rowL l, 104, cap * 5⟩], k + 1 + 4 * q + 1 + 1⟩ := by
          rw [hF]
          refine VA.all (rs := [15, 25, 32, 50]) (by decide +kernel) (by decide) ?_
          refine ⟨⟨_, rfl, .inl rfl, ?_⟩, ⟨_, rfl, .inl rfl, ?_⟩, ⟨_, rfl, .inl rfl, ?_⟩, ⟨_, rfl, .inl rfl, ?_⟩, trivial⟩
          ·
            refine OpE.callT' (k + 1 + 4 * q + 1 + 1) rfl rfl hB rfl Tryz.call82 rfl (some_Q (by rfl) (by decide) (by decide) (AllQ.cons ⟨(hok.getD i).1, (hok.getD i).2.2⟩ (AllQ.cons ⟨(hok.getD i).1, (hok.getD i).2.2⟩ (AllQ.cons (by decide) (AllQ.cons (by decide) AllQ.nil))))) (by omega) ?_
            rintro _ ⟨r63, hr63, rfl⟩
            have hh := hS34 r63 hr63
            rw [hF] at hh
            exact VA.to hh (by decide +kernel) (Le.mk hB [0] ⟨rfl, rfl, rfl, rfl, rfl, rfl, rfl, rfl, rfl, rfl, rfl, rfl, rfl, rfl, rfl, rfl, rfl, rfl, rfl, rfl, rfl, rfl, rfl, trivial⟩ rfl rfl (Nat.le_refl _))
          ·
            refine OpE.buildSlice (zc := #[.string ⟨#[]⟩, .string ⟨#[]⟩, .string ⟨#[]⟩, .string ⟨#[]⟩]) rfl hB rfl Tryz.underlying29 Tryz.sizeOf9 Tryz.zeroValue9 (by decide) (by decide) (by kernel_rfl) rfl rfl ?_
            have hh := hS37 
            rw [hF] at hh
            exact VA.to hh (by decide +kernel) (Le.mk hB [0] ⟨rfl, rfl, rfl, rfl, rfl, rfl, rfl, rfl, rfl, rfl, rfl, rfl, rfl, rfl, rfl, rfl, rfl, rfl, rfl, rfl, rfl, rfl, rfl, trivial⟩ rfl rfl (Nat.le_refl _))
          ·
            refine OpE.buildSlice (zc := #[.int .i64 0, .int .i64 0, .int .i64 0]) rfl hB rfl Tryz.underlying22 Tryz.sizeOf3 Tryz.zeroValue3 (by decide) (by decide) (by kernel_rfl) rfl rfl ?_
            have hh := hS39 
            rw [hF] at hh
            exact VA.to hh (by decide +kernel) (Le.mk hB [0] ⟨rfl, rfl, rfl, rfl, rfl, rfl, rfl, rfl, rfl, rfl, rfl, rfl, rfl, rfl, rfl, rfl, rfl, rfl, rfl, rfl, rfl, rfl, rfl, trivial⟩ rfl rfl (Nat.le_refl _))
          ·
            refine OpE.buildSlice (zc := #[.int .i64 0, .int .i64 0, .int .i64 0]) rfl hB rfl Tryz.underlying22 Tryz.sizeOf3 Tryz.zeroValue3 (by decide) (by decide) (by kernel_rfl) rfl rfl ?_
            have hh := hS41 
            rw [hF] at hh
            exact VA.to hh (by decide +kernel) (Le.mk hB [0] ⟨rfl, rfl, rfl, rfl, rfl, rfl, rfl, rfl, rfl, rfl, rfl, rfl, rfl, rfl, rfl, rfl, rfl, rfl, rfl, rfl, rfl, rfl, rfl, trivial⟩ rfl rfl (Nat.le_refl _))
        have hS50 : F 23 (lstB 67 [0, 1, 2, 3, 4, 5, 6, 7, 8, 9, 10, 11, 12, 13, 14, 16, 17, 18, 19, 20, 21, 22, 23, 24, 27, 28, 29, 30, 31, 34, 35, 36, 37, 38, 41, 42, 43, 44, 45, 46, 47, 48, 49, 50]) ⟨[(0, sp p), (53, sp p), (64, sp p), (75, sp p), (82, sp p), (89, sp p), (48, (pO gr (0 + i * 5))), (49, (pO gr (0 + i * 5))), (50, (pO gr (0 + i * 5))), (51, (pO gr (0 + i * 5))), (52, (pO gr (0 + i * 5))), (57, avS (xO l i).key), (61, avS (xO l i).key), (68, avS (xO l i).product), (72, avS (xO l i).product), (79, avI (xO l i).count), (86, avI (xO l i).ready), (93, avI (xO l i).due), (97, avI (xO l i).due), (5, .v (.slice (some ⟨gr, 0, none⟩) l.length cap)), (62, (iO 4 [avS (xO l i).key, avS (xO l i).key, avS ⟨#[]⟩, avS ⟨#[111, 97]⟩])), (98, (iO 3 [avI (xO l i).due, avI (xO l i).due, avI 345686400000]))], [.box gr ⟨rowL l, 104, cap * 5⟩], k + 1 + 4 * q + 1 + 1⟩ := by
          rw [hF]
          refine VA.all (rs := [15, 25, 32, 39]) (by decide +kernel) (by decide) ?_
          refine ⟨⟨_, rfl, .inl rfl, ?_⟩, ⟨_, rfl, .inl rfl, ?_⟩, ⟨_, rfl, .inl rfl, ?_⟩, ⟨_, rfl, .inl rfl, ?_⟩, trivial⟩
          ·
            refine OpE.callT' (k + 1 + 4 * q + 1 + 1) rfl rfl hB rfl Tryz.call82 rfl (some_Q (by rfl) (by decide) (by decide) (AllQ.cons ⟨(hok.getD i).1, (hok.getD i).2.2⟩ (AllQ.cons ⟨(hok.getD i).1, (hok.getD i).2.2⟩ (AllQ.cons (by decide) (AllQ.cons (by decide) AllQ.nil))))) (by omega) ?_
            rintro _ ⟨r63, hr63, rfl⟩
            have hh := hS35 r63 hr63
            rw [hF] at hh
            exact VA.to hh (by decide +kernel) (Le.mk hB [0] ⟨rfl, rfl, rfl, rfl, rfl, rfl, rfl, rfl, rfl, rfl, rfl, rfl, rfl, rfl, rfl, rfl, rfl, rfl, rfl, rfl, rfl, rfl, rfl, trivial⟩ rfl rfl (Nat.le_refl _))
          ·
            refine OpE.buildSlice (zc := #[.string ⟨#[]⟩, .string ⟨#[]⟩, .string ⟨#[]⟩, .string ⟨#[]⟩]) rfl hB rfl Tryz.underlying29 Tryz.sizeOf9 Tryz.zeroValue9 (by decide) (by decide) (by kernel_rfl) rfl rfl ?_
            have hh := hS38 
            rw [hF] at hh
            exact VA.to hh (by decide +kernel) (Le.mk hB [0] ⟨rfl, rfl, rfl, rfl, rfl, rfl, rfl, rfl, rfl, rfl, rfl, rfl, rfl, rfl, rfl, rfl, rfl, rfl, rfl, rfl, rfl, rfl, rfl, trivial⟩ rfl rfl (Nat.le_refl _))
          ·
            refine OpE.buildSlice (zc := #[.int .i64 0, .int .i64 0, .int .i64 0]) rfl hB rfl Tryz.underlying22 Tryz.sizeOf3 Tryz.zeroValue3 (by decide) (by decide) (by kernel_rfl) rfl rfl ?_
            have hh := hS40 
            rw [hF] at hh
            exact VA.to hh (by decide +kernel) (Le.mk hB [0] ⟨rfl, rfl, rfl, rfl, rfl, rfl, rfl, rfl, rfl, rfl, rfl, rfl, rfl, rfl, rfl, rfl, rfl, rfl, rfl, rfl, rfl, rfl, rfl, trivial⟩ rfl rfl (Nat.le_refl _))
          ·
            refine OpE.buildSlice (zc := #[.int .i64 0, .int .i64 0, .int .i64 0]) rfl hB rfl Tryz.underlying22 Tryz.sizeOf3 Tryz.zeroValue3 (by decide) (by decide) (by kernel_rfl) rfl rfl ?_
            have hh := hS41 
            rw [hF] at hh
            exact VA.to hh (by decide +kernel) (Le.mk hB [0] ⟨rfl, rfl, rfl, rfl, rfl, rfl, rfl, rfl, rfl, rfl, rfl, rfl, rfl, rfl, rfl, rfl, rfl, rfl, rfl, rfl, rfl, rfl, rfl, trivial⟩ rfl rfl (Nat.le_refl _))
        have hS51 : F 23 (lstB 67 [0, 1, 2, 3, 4, 5, 6, 7, 8, 9, 10, 11, 12, 13, 16, 17, 18, 19, 20, 21, 22, 23, 24, 25, 27, 28, 29, 30, 31, 32, 34, 35, 36, 37, 38, 41, 42, 43, 44, 45, 46, 47, 48, 49]) ⟨[(0, sp p), (53, sp p), (64, sp p), (75, sp p), (82, sp p), (89, sp p), (48, (pO gr (0 + i * 5))), (49, (pO gr (0 + i * 5))), (50, (pO gr (0 + i * 5))), (51, (pO gr (0 + i * 5))), (52, (pO gr (0 + i * 5))), (57, avS (xO l i).key), (61, avS (xO l i).key), (68, avS (xO l i).product), (72, avS (xO l i).product), (79, avI (xO l i).count), (86, avI (xO l i).ready), (93, avI (xO l i).due), (97, avI (xO l i).due), (5, .v (.slice (some ⟨gr, 0, none⟩) l.length cap)), (73, (iO 4 [avS (xO l i).product, avS (xO l i).product, avS ⟨#[122, 122]⟩, avS ⟨#[]⟩])), (80, (iO 3 [avI (xO l i).count, avI 0, avI 100001]))], [.box gr ⟨rowL l, 104, cap * 5⟩], k + 1 + 4 * q + 1 + 1⟩ := by
          rw [hF]
          refine VA.all (rs := [14, 39, 50]) (by decide +kernel) (by decide) ?_
          refine ⟨⟨_, rfl, .inl rfl, ?_⟩, ⟨_, rfl, .inl rfl, ?_⟩, ⟨_, rfl, .inl rfl, ?_⟩, trivial⟩
          ·
            refine OpE.buildSlice (zc := #[.string ⟨#[]⟩, .string ⟨#[]⟩, .string ⟨#[]⟩, .string ⟨#[]⟩]) rfl hB rfl Tryz.underlying29 Tryz.sizeOf9 Tryz.zeroValue9 (by decide) (by decide) (by kernel_rfl) rfl rfl ?_
            have hh := hS36 
            rw [hF] at hh
            exact VA.to hh (by decide +kernel) (Le.mk hB [0] ⟨rfl, rfl, rfl, rfl, rfl, rfl, rfl, rfl, rfl, rfl, rfl, rfl, rfl, rfl, rfl, rfl, rfl, rfl, rfl, rfl, rfl, rfl, rfl, trivial⟩ rfl rfl (Nat.le_refl _))
          ·
            refine OpE.buildSlice (zc := #[.int .i64 0, .int .i64 0, .int .i64 0]) rfl hB rfl Tryz.underlying22 Tryz.sizeOf3 Tryz.zeroValue3 (by decide) (by decide) (by kernel_rfl) rfl rfl ?_
            have hh := hS42 
            rw [hF] at hh
            exact VA.to hh (by decide +kernel) (Le.mk hB [0] ⟨rfl, rfl, rfl, rfl, rfl, rfl, rfl, rfl, rfl, rfl, rfl, rfl, rfl, rfl, rfl, rfl, rfl, rfl, rfl, rfl, rfl, rfl, rfl, trivial⟩ rfl rfl (Nat.le_refl _))
          ·
            refine OpE.buildSlice (zc := #[.int .i64 0, .int .i64 0, .int .i64 0]) rfl hB rfl Tryz.underlying22 Tryz.sizeOf3 Tryz.zeroValue3 (by decide) (by decide) (by kernel_rfl) rfl rfl ?_
            have hh := hS43 
            rw [hF] at hh
            exact VA.to hh (by decide +kernel) (Le.mk hB [0] ⟨rfl, rfl, rfl, rfl, rfl, rfl, rfl, rfl, rfl, rfl, rfl, rfl, rfl, rfl, rfl, rfl, rfl, rfl, rfl, rfl, rfl, rfl, rfl, trivial⟩ rfl rfl (Nat.le_refl _))
        have hS52 : F 23 (lstB 67 [0, 1, 2, 3, 4, 5, 6, 7, 8, 9, 10, 11, 12, 13, 16, 17, 18, 19, 20, 21, 22, 23, 24, 25, 27, 28, 29, 30, 31, 34, 35, 36, 37, 38, 39, 41, 42, 43, 44, 45, 46, 47, 48, 49]) ⟨[(0, sp p), (53, sp p), (64, sp p), (75, sp p), (82, sp p), (89, sp p), (48, (pO gr (0 + i * 5))), (49, (pO gr (0 + i * 5))), (50, (pO gr (0 + i * 5))), (51, (pO gr (0 + i * 5))), (52, (pO gr (0 + i * 5))), (57, avS (xO l i).key), (61, avS (xO l i).key), (68, avS (xO l i).product), (72, avS (xO l i).product), (79, avI (xO l i).count), (86, avI (xO l i).ready), (93, avI (xO l i).due), (97, avI (xO l i).due), (5, .v (.slice (some ⟨gr, 0, none⟩) l.length cap)), (73, (iO 4 [avS (xO l i).product, avS (xO l i).product, avS ⟨#[122, 122]⟩, avS ⟨#[]⟩])), (87, (iO 3 [avI (xO l i).ready, avI (-1), avI 345686400000]))], [.box gr ⟨rowL l, 104, cap * 5⟩], k + 1 + 4 * q + 1 + 1⟩ := by
          rw [hF]
          refine VA.all (rs := [14, 32, 50]) (by decide +kernel) (by decide) ?_
          refine ⟨⟨_, rfl, .inl rfl, ?_⟩, ⟨_, rfl, .inl rfl, ?_⟩, ⟨_, rfl, .inl rfl, ?_⟩, trivial⟩
          ·
            refine OpE.buildSlice (zc := #[.string ⟨#[]⟩, .string ⟨#[]⟩, .string ⟨#[]⟩, .string ⟨#[]⟩]) rfl hB rfl Tryz.underlying29 Tryz.sizeOf9 Tryz.zeroValue9 (by decide) (by decide) (by kernel_rfl) rfl rfl ?_
            have hh := hS37 
            rw [hF] at hh
            exact VA.to hh (by decide +kernel) (Le.mk hB [0] ⟨rfl, rfl, rfl, rfl, rfl, rfl, rfl, rfl, rfl, rfl, rfl, rfl, rfl, rfl, rfl, rfl, rfl, rfl, rfl, rfl, rfl, rfl, rfl, trivial⟩ rfl rfl (Nat.le_refl _))
          ·
            refine OpE.buildSlice (zc := #[.int .i64 0, .int .i64 0, .int .i64 0]) rfl hB rfl Tryz.underlying22 Tryz.sizeOf3 Tryz.zeroValue3 (by decide) (by decide) (by kernel_rfl) rfl rfl ?_
            have hh := hS42 
            rw [hF] at hh
            exact VA.to hh (by decide +kernel) (Le.mk hB [0] ⟨rfl, rfl, rfl, rfl, rfl, rfl, rfl, rfl, rfl, rfl, rfl, rfl, rfl, rfl, rfl, rfl, rfl, rfl, rfl, rfl, rfl, rfl, rfl, trivial⟩ rfl rfl (Nat.le_refl _))
          ·
            refine OpE.buildSlice (zc := #[.int .i64 0, .int .i64 0, .int .i64 0]) rfl hB rfl Tryz.underlying22 Tryz.sizeOf3 Tryz.zeroValue3 (by decide) (by decide) (by kernel_rfl) rfl rfl ?_
            have hh := hS44 
            rw [hF] at hh
            exact VA.to hh (by decide +kernel) (Le.mk hB [0] ⟨rfl, rfl, rfl, rfl, rfl, rfl, rfl, rfl, rfl, rfl, rfl, rfl, rfl, rfl, rfl, rfl, rfl, rfl, rfl, rfl, rfl, rfl, rfl, trivial⟩ rfl rfl (Nat.le_refl _))
        have hS53 : F 23 (lstB 67 [0, 1, 2, 3, 4, 5, 6, 7, 8, 9, 10, 11, 12, 13, 16, 17, 18, 19, 20, 21, 22, 23, 24, 25, 27, 28, 29, 30, 31, 34, 35, 36, 37, 38, 41, 42, 43, 44, 45, 46, 47, 48, 49, 50]) ⟨[(0, sp p), (53, sp p), (64, sp p), (75, sp p), (82, sp p), (89, sp p), (48, (pO gr (0 + i * 5))), (49, (pO gr (0 + i * 5))), (50, (pO gr (0 + i * 5))), (51, (pO gr (0 + i * 5))), (52, (pO gr (0 + i * 5))), (57, avS (xO l i).key), (61, avS (xO l i).key), (68, avS (xO l i).product), (72, avS (xO l i).product), (79, avI (xO l i).count), (86, avI (xO l i).ready), (93, avI (xO l i).due), (97, avI (xO l i).due), (5, .v (.slice (some ⟨gr, 0, none⟩) l.length cap)), (73, (iO 4 [avS (xO l i).product, avS (xO l i).product, avS ⟨#[122, 122]⟩, avS ⟨#[]⟩])), (98, (iO 3 [avI (xO l i).due, avI (xO l i).due, avI 345686400000]))], [.box gr ⟨rowL l, 104, cap * 5⟩], k + 1 + 4 * q + 1 + 1⟩ := by
          rw [hF]
          refine VA.all (rs := [14, 32, 39]) (by decide +kernel) (by decide) ?_
          refine ⟨⟨_, rfl, .inl rfl, ?_⟩, ⟨_, rfl, .inl rfl, ?_⟩, ⟨_, rfl, .inl rfl, ?_⟩, trivial⟩
          ·
            refine OpE.buildSlice (zc := #[.string ⟨#[]⟩, .string ⟨#[]⟩, .string ⟨#[]⟩, .string ⟨#[]⟩]) rfl hB rfl Tryz.underlying29 Tryz.sizeOf9 Tryz.zeroValue9 (by decide) (by decide) (by kernel_rfl) rfl rfl ?_
            have hh := hS38 
            rw [hF] at hh
            exact VA.to hh (by decide +kernel) (Le.mk hB [0] ⟨rfl, rfl, rfl, rfl, rfl, rfl, rfl, rfl, rfl, rfl, rfl, rfl, rfl, rfl, rfl, rfl, rfl, rfl, rfl, rfl, rfl, rfl, rfl, trivial⟩ rfl rfl (Nat.le_refl _))
          ·
            refine OpE.buildSlice (zc := #[.int .i64 0, .int .i64 0, .int .i64 0]) rfl hB rfl Tryz.underlying22 Tryz.sizeOf3 Tryz.zeroValue3 (by decide) (by decide) (by kernel_rfl) rfl rfl ?_
            have hh := hS43 
            rw [hF] at hh
            exact VA.to hh (by decide +kernel) (Le.mk hB [0] ⟨rfl, rfl, rfl, rfl, rfl, rfl, rfl, rfl, rfl, rfl, rfl, rfl, rfl, rfl, rfl, rfl, rfl, rfl, rfl, rfl, rfl, rfl, rfl, trivial⟩ rfl rfl (Nat.le_refl _))
          ·
            refine OpE.buildSlice (zc := #[.int .i64 0, .int .i64 0, .int .i64 0]) rfl hB rfl Tryz.underlying22 Tryz.sizeOf3 Tryz.zeroValue3 (by decide) (by decide) (by kernel_rfl) rfl rfl ?_
            have hh := hS44 
            rw [hF] at hh
            exact VA.to hh (by decide +kernel) (Le.mk hB [0] ⟨rfl, rfl, rfl, rfl, rfl, rfl, rfl, rfl, rfl, rfl, rfl, rfl, rfl, rfl, rfl, rfl, rfl, rfl, rfl, rfl, rfl, rfl, rfl, trivial⟩ rfl rfl (Nat.le_refl _))
        have hS54 : F 23 (lstB 67 [0, 1, 2, 3, 4, 5, 6, 7, 8, 9, 10, 11, 12, 13, 16, 17, 18, 19, 20, 21, 22, 23, 24, 27, 28, 29, 30, 31, 32, 34, 35, 36, 37, 38, 39, 41, 42, 43, 44, 45, 46, 47, 48, 49]) ⟨[(0, sp p), (53, sp p), (64, sp p), (75, sp p), (82, sp p), (89, sp p), (48, (pO gr (0 + i * 5))), (49, (pO gr (0 + i * 5))), (50, (pO gr (0 + i * 5))), (51, (pO gr (0 + i * 5))), (52, (pO gr (0 + i * 5))), (57, avS (xO l i).key), (61, avS (xO l i).key), (68, avS (xO l i).product), (72, avS (xO l i).product), (79, avI (xO l i).count), (86, avI (xO l i).ready), (93, avI (xO l i).due), (97, avI (xO l i).due), (5, .v (.slice (some ⟨gr, 0, none⟩) l.length cap)), (80, (iO 3 [avI (xO l i).count, avI 0, avI 100001])), (87, (iO 3 [avI (xO l i).ready, avI (-1), avI 345686400000]))], [.box gr ⟨rowL l, 104, cap * 5⟩], k + 1 + 4 * q + 1 + 1⟩ := by
          rw [hF]
          refine VA.all (rs := [14, 25, 50]) (by decide +kernel) (by decide) ?_
          refine ⟨⟨_, rfl, .inl rfl, ?_⟩, ⟨_, rfl, .inl rfl, ?_⟩, ⟨_, rfl, .inl rfl, ?_⟩, trivial⟩
          ·
            refine OpE.buildSlice (zc := #[.string ⟨#[]⟩, .string ⟨#[]⟩, .string ⟨#[]⟩, .string ⟨#[]⟩]) rfl hB rfl Tryz.underlying29 Tryz.sizeOf9 Tryz.zeroValue9 (by decide) (by decide) (by kernel_rfl) rfl rfl ?_
            have hh := hS39 
            rw [hF] at hh
            exact VA.to hh (by decide +kernel) (Le.mk hB [0] ⟨rfl, rfl, rfl, rfl, rfl, rfl, rfl, rfl, rfl, rfl, rfl, rfl, rfl, rfl, rfl, rfl, rfl, rfl, rfl, rfl, rfl, rfl, rfl, trivial⟩ rfl rfl (Nat.le_refl _))
          ·
            refine OpE.buildSlice (zc := #[.string ⟨#[]⟩, .string ⟨#[]⟩, .string ⟨#[]⟩, .string ⟨#[]⟩]) rfl hB rfl Tryz.underlying29 Tryz.sizeOf9 Tryz.zeroValue9 (by decide) (by decide) (by kernel_rfl) rfl rfl ?_
            have hh := hS42 
            rw [hF] at hh
            exact VA.to hh (by decide +kernel) (Le.mk hB [0] ⟨rfl, rfl, rfl, rfl, rfl, rfl, rfl, rfl, rfl, rfl, rfl, rfl, rfl, rfl, rfl, rfl, rfl, rfl, rfl, rfl, rfl, rfl, rfl, trivial⟩ rfl rfl (Nat.le_refl _))
          ·
            refine OpE.buildSlice (zc := #[.int .i64 0, .int .i64 0, .int .i64 0]) rfl hB rfl Tryz.underlying22 Tryz.sizeOf3 Tryz.zeroValue3 (by decide) (by decide) (by kernel_rfl) rfl rfl ?_
            have hh := hS45 
            rw [hF] at hh
            exact VA.to hh (by decide +kernel) (Le.mk hB [0] ⟨rfl, rfl, rfl, rfl, rfl, rfl, rfl, rfl, rfl, rfl, rfl, rfl, rfl, rfl, rfl, rfl, rfl, rfl, rfl, rfl, rfl, rfl, rfl, trivial⟩ rfl rfl (Nat.le_refl _))
        have hS55 : F 23 (lstB 67 [0, 1, 2, 3, 4, 5, 6, 7, 8, 9, 10, 11, 12, 13, 16, 17, 18, 19, 20, 21, 22, 23, 24, 27, 28, 29, 30, 31, 32, 34, 35, 36, 37, 38, 41, 42, 43, 44, 45, 46, 47, 48, 49, 50]) ⟨[(0, sp p), (53, sp p), (64, sp p), (75, sp p), (82, sp p), (89, sp p), (48, (pO gr (0 + i * 5))), (49, (pO gr (0 + i * 5))), (50, (pO gr (0 + i * 5))), (51, (pO gr (0 + i * 5))), (52, (pO gr (0 + i * 5))), (57, avS (xO l i).key), (61, avS (xO l i).key), (68, avS (xO l i).product), (72, avS (xO l i).product), (79, avI (xO l i).count), (86, avI (xO l i).ready), (93, avI (xO l i).due), (97, avI (xO l i).due), (5, .v (.slice (some ⟨gr, 0, none⟩) l.length cap)), (80, (iO 3 [avI (xO l i).count, avI 0, avI 100001])), (98, (iO 3 [avI (xO l i).due, avI (xO l i).due, avI 345686400000]))], [.box gr ⟨rowL l, 104, cap * 5⟩], k + 1 + 4 * q + 1 + 1⟩ := by
          rw [hF]
          refine VA.all (rs := [14, 25, 39]) (by decide +kernel) (by decide) ?_
          refine ⟨⟨_, rfl, .inl rfl, ?_⟩, ⟨_, rfl, .inl rfl, ?_⟩, ⟨_, rfl, .inl rfl, ?_⟩, trivial⟩
          ·
            refine OpE.buildSlice (zc := #[.string ⟨#[]⟩, .string ⟨#[]⟩, .string ⟨#[]⟩, .string ⟨#[]⟩]) rfl hB rfl Tryz.underlying29 Tryz.sizeOf9 Tryz.zeroValue9 (by decide) (by decide) (by kernel_rfl) rfl rfl ?_
            have hh := hS40 
            rw [hF] at hh
            exact VA.to hh (by decide +kernel) (Le.mk hB [0] ⟨rfl, rfl, rfl, rfl, rfl, rfl, rfl, rfl, rfl, rfl, rfl, rfl, rfl, rfl, rfl, rfl, rfl, rfl, rfl, rfl, rfl, rfl, rfl, trivial⟩ rfl rfl (Nat.le_refl _))
          ·
            refine OpE.buildSlice (zc := #[.string ⟨#[]⟩, .string ⟨#[]⟩, .string ⟨#[]⟩, .string ⟨#[]⟩]) rfl hB rfl Tryz.underlying29 Tryz.sizeOf9 Tryz.zeroValue9 (by decide) (by decide) (by kernel_rfl) rfl rfl ?_
            have hh := hS43 
            rw [hF] at hh
            exact VA.to hh (by decide +kernel) (Le.mk hB [0] ⟨rfl, rfl, rfl, rfl, rfl, rfl, rfl, rfl, rfl, rfl, rfl, rfl, rfl, rfl, rfl, rfl, rfl, rfl, rfl, rfl, rfl, rfl, rfl, trivial⟩ rfl rfl (Nat.le_refl _))
          ·
            refine OpE.buildSlice (zc := #[.int .i64 0, .int .i64 0, .int .i64 0]) rfl hB rfl Tryz.underlying22 Tryz.sizeOf3 Tryz.zeroValue3 (by decide) (by decide) (by kernel_rfl) rfl rfl ?_
            have hh := hS45 
            rw [hF] at hh
            exact VA.to hh (by decide +kernel) (Le.mk hB [0] ⟨rfl, rfl, rfl, rfl, rfl, rfl, rfl, rfl, rfl, rfl, rfl, rfl, rfl, rfl, rfl, rfl, rfl, rfl, rfl, rfl, rfl, rfl, rfl, trivial⟩ rfl rfl (Nat.le_refl _))
        have hS56 : F 23 (lstB 67 [0, 1, 2, 3, 4, 5, 6, 7, 8, 9, 10, 11, 12, 13, 16, 17, 18, 19, 20, 21, 22, 23, 24, 27, 28, 29, 30, 31, 34, 35, 36, 37, 38, 39, 41, 42, 43, 44, 45, 46, 47, 48, 49, 50]) ⟨[(0, sp p), (53, sp p), (64, sp p), (75, sp p), (82, sp p), (89, sp p), (48, (pO gr (0 + i * 5))), (49, (pO gr (0 + i * 5))), (50, (pO gr (0 + i * 5))), (51, (pO gr (0 + i * 5))), (52, (pO gr (0 + i * 5))), (57, avS (xO l i).key), (61, avS (xO l i).key), (68, avS (xO l i).product), (72, avS (xO l i).product), (79, avI (xO l i).count), (86, avI (xO l i).ready), (93, avI (xO l i).due), (97, avI (xO l i).due), (5, .v (.slice (some ⟨gr, 0, none⟩) l.length cap)), (87, (iO 3 [avI (xO l i).ready, avI (-1), avI 345686400000])), (98, (iO 3 [avI (xO l i).due, avI (xO l i).due, avI 345686400000]))], [.box gr ⟨rowL l, 104, cap * 5⟩], k + 1 + 4 * q + 1 + 1⟩ := by
          rw [hF]
          refine VA.all (rs := [14, 25, 32]) (by decide +kernel) (by decide) ?_
          refine ⟨⟨_, rfl, .inl rfl, ?_⟩, ⟨_, rfl, .inl rfl, ?_⟩, ⟨_, rfl, .inl rfl, ?_⟩, trivial⟩
          ·
            refine OpE.buildSlice (zc := #[.string ⟨#[]⟩, .string ⟨#[]⟩, .string ⟨#[]⟩, .string ⟨#[]⟩]) rfl hB rfl Tryz.underlying29 Tryz.sizeOf9 Tryz.zeroValue9 (by decide) (by decide) (by kernel_rfl) rfl rfl ?_
            have hh := hS41 
            rw [hF] at hh
            exact VA.to hh (by decide +kernel) (Le.mk hB [0] ⟨rfl, rfl, rfl, rfl, rfl, rfl, rfl, rfl, rfl, rfl, rfl, rfl, rfl, rfl, rfl, rfl, rfl, rfl, rfl, rfl, rfl, rfl, rfl, trivial⟩ rfl rfl (Nat.le_refl _))
          ·
            refine OpE.buildSlice (zc := #[.string ⟨#[]⟩, .string ⟨#[]⟩, .string ⟨#[]⟩, .string ⟨#[]⟩]) rfl hB rfl Tryz.underlying29 Tryz.sizeOf9 Tryz.zeroValue9 (by decide) (by decide) (by kernel_rfl) rfl rfl ?_
            have hh := hS44 
            rw [hF] at hh
            exact VA.to hh (by decide +kernel) (Le.mk hB [0] ⟨rfl, rfl, rfl, rfl, rfl, rfl, rfl, rfl, rfl, rfl, rfl, rfl, rfl, rfl, rfl, rfl, rfl, rfl, rfl, rfl, rfl, rfl, rfl, trivial⟩ rfl rfl (Nat.le_refl _))
          ·
            refine OpE.buildSlice (zc := #[.int .i64 0, .int .i64 0, .int .i64 0]) rfl hB rfl Tryz.underlying22 Tryz.sizeOf3 Tryz.zeroValue3 (by decide) (by decide) (by kernel_rfl) rfl rfl ?_
            have hh := hS45 
            rw [hF] at hh
            exact VA.to hh (by decide +kernel) (Le.mk hB [0] ⟨rfl, rfl, rfl, rfl, rfl, rfl, rfl, rfl, rfl, rfl, rfl, rfl, rfl, rfl, rfl, rfl, rfl, rfl, rfl, rfl, rfl, rfl, rfl, trivial⟩ rfl rfl (Nat.le_refl _))
        have hS57 : F 24 (lstB 67 [0, 1, 2, 3, 4, 5, 6, 7, 8, 9, 10, 11, 12, 13, 14, 16, 17, 18, 19, 20, 21, 22, 23, 24, 27, 28, 29, 30, 31, 34, 35, 36, 37, 38, 41, 42, 43, 44, 45, 46, 47, 48, 49]) ⟨[(0, sp p), (53, sp p), (64, sp p), (75, sp p), (82, sp p), (89, sp p), (48, (pO gr (0 + i * 5))), (49, (pO gr (0 + i * 5))), (50, (pO gr (0 + i * 5))), (51, (pO gr (0 + i * 5))), (52, (pO gr (0 + i * 5))), (57, avS (xO l i).key), (61, avS (xO l i).key), (68, avS (xO l i).product), (72, avS (xO l i).product), (79, avI (xO l i).count), (86, avI (xO l i).ready), (93, avI (xO l i).due), (97, avI (xO l i).due), (5, .v (.slice (some ⟨gr, 0, none⟩) l.length cap)), (62, (iO 4 [avS (xO l i).key, avS (xO l i).key, avS ⟨#[]⟩, avS ⟨#[111, 97]⟩]))], [.box gr ⟨rowL l, 104, cap * 5⟩], k + 1 + 4 * q + 1 + 1⟩ := by
          rw [hF]
          refine VA.all (rs := [15, 25, 32, 39, 50]) (by decide +kernel) (by decide) ?_
          refine ⟨⟨_, rfl, .inl rfl, ?_⟩, ⟨_, rfl, .inl rfl, ?_⟩, ⟨_, rfl, .inl rfl, ?_⟩, ⟨_, rfl, .inl rfl, ?_⟩, ⟨_, rfl, .inl rfl, ?_⟩, trivial⟩
          ·
            refine OpE.callT' (k + 1 + 4 * q + 1 + 1) rfl rfl hB rfl Tryz.call82 rfl (some_Q (by rfl) (by decide) (by decide) (AllQ.cons ⟨(hok.getD i).1, (hok.getD i).2.2⟩ (AllQ.cons ⟨(hok.getD i).1, (hok.getD i).2.2⟩ (AllQ.cons (by decide) (AllQ.cons (by decide) AllQ.nil))))) (by omega) ?_
            rintro _ ⟨r63, hr63, rfl⟩
            have hh := hS46 r63 hr63
            rw [hF] at hh
            exact VA.to hh (by decide +kernel) (Le.mk hB [0] ⟨rfl, rfl, rfl, rfl, rfl, rfl, rfl, rfl, rfl, rfl, rfl, rfl, rfl, rfl, rfl, rfl, rfl, rfl, rfl, rfl, rfl, rfl, trivial⟩ rfl rfl (Nat.le_refl _))
          ·
            refine OpE.buildSlice (zc := #[.string ⟨#[]⟩, .string ⟨#[]⟩, .string ⟨#[]⟩, .string ⟨#[]⟩]) rfl hB rfl Tryz.underlying29 Tryz.sizeOf9 Tryz.zeroValue9 (by decide) (by decide) (by kernel_rfl) rfl rfl ?_
            have hh := hS47 
            rw [hF] at hh
            exact VA.to hh (by decide +kernel) (Le.mk hB [0] ⟨rfl, rfl, rfl, rfl, rfl, rfl, rfl, rfl, rfl, rfl, rfl, rfl, rfl, rfl, rfl, rfl, rfl, rfl, rfl, rfl, rfl, rfl, trivial⟩ rfl rfl (Nat.le_refl _))
          ·
            refine OpE.buildSlice (zc := #[.int .i64 0, .int .i64 0, .int .i64 0]) rfl hB rfl Tryz.underlying22 Tryz.sizeOf3 Tryz.zeroValue3 (by decide) (by decide) (by kernel_rfl) rfl rfl ?_
            have hh := hS48 
            rw [hF] at hh
            exact VA.to hh (by decide +kernel) (Le.mk hB [0] ⟨rfl, rfl, rfl, rfl, rfl, rfl, rfl, rfl, rfl, rfl, rfl, rfl, rfl, rfl, rfl, rfl, rfl, rfl, rfl, rfl, rfl, rfl, trivial⟩ rfl rfl (Nat.le_refl _))
          ·
            refine OpE.buildSlice (zc := #[.int .i64 0, .int .i64 0, .int .i64 0]) rfl hB rfl Tryz.underlying22 Tryz.sizeOf3 Tryz.zeroValue3 (by decide) (by decide) (by kernel_rfl) rfl rfl ?_
            have hh := hS49 
            rw [hF] at hh
            exact VA.to hh (by decide +kernel) (Le.mk hB [0] ⟨rfl, rfl, rfl, rfl, rfl, rfl, rfl, rfl, rfl, rfl, rfl, rfl, rfl, rfl, rfl, rfl, rfl, rfl, rfl, rfl, rfl, rfl, trivial⟩ rfl rfl (Nat.le_refl _))
          ·
            refine OpE.buildSlice (zc := #[.int .i64 0, .int .i64 0, .int .i64 0]) rfl hB rfl Tryz.underlying22 Tryz.sizeOf3 Tryz.zeroValue3 (by decide) (by decide) (by kernel_rfl) rfl rfl ?_
            have hh := hS50 
            rw [hF] at hh
            exact VA.to hh (by decide +kernel) (Le.mk hB [0] ⟨rfl, rfl, rfl, rfl, rfl, rfl, rfl, rfl, rfl, rfl, rfl, rfl, rfl, rfl, rfl, rfl, rfl, rfl, rfl, rfl, rfl, rfl, trivial⟩ rfl rfl (Nat.le_refl _))
        have hS58 : F 24 (lstB 67 [0, 1, 2, 3, 4, 5, 6, 7, 8, 9, 10, 11, 12, 13, 16, 17, 18, 19, 20, 21, 22, 23, 24, 25, 27, 28, 29, 30, 31, 34, 35, 36, 37, 38, 41, 42, 43, 44, 45, 46, 47, 48, 49]) ⟨[(0, sp p), (53, sp p), (64, sp p), (75, sp p), (82, sp p), (89, sp p), (48, (pO gr (0 + i * 5))), (49, (pO gr (0 + i * 5))), (50, (pO gr (0 + i * 5))), (51, (pO gr (0 + i * 5))), (52, (pO gr (0 + i * 5))), (57, avS (xO l i).key), (61, avS (xO l i).key), (68, avS (xO l i).product), (72, avS (xO l i).product), (79, avI (xO l i).count), (86, avI (xO l i).ready), (93, avI (xO l i).due), (97, avI (xO l i).due), (5, .v (.slice (some ⟨gr, 0, none⟩) l.length cap)), (73, (iO 4 [avS (xO l i).product, avS (xO l i).product, avS ⟨#[122, 122]⟩, avS ⟨#[]⟩]))], [.box gr ⟨rowL l, 104, cap * 5⟩], k + 1 + 4 * q + 1 + 1⟩ := by
          rw [hF]
          refine VA.all (rs := [14, 32, 39, 50]) (by decide +kernel) (by decide) ?_
          refine ⟨⟨_, rfl, .inl rfl, ?_⟩, ⟨_, rfl, .inl rfl, ?_⟩, ⟨_, rfl, .inl rfl, ?_⟩, ⟨_, rfl, .inl rfl, ?_⟩, trivial⟩
          ·
            refine OpE.buildSlice (zc := #[.string ⟨#[]⟩, .string ⟨#[]⟩, .string ⟨#[]⟩, .string ⟨#[]⟩]) rfl hB rfl Tryz.underlying29 Tryz.sizeOf9 Tryz.zeroValue9 (by decide) (by decide) (by kernel_rfl) rfl rfl ?_
            have hh := hS47 
            rw [hF] at hh
            exact VA.to hh (by decide +kernel) (Le.mk hB [0] ⟨rfl, rfl, rfl, rfl, rfl, rfl, rfl, rfl, rfl, rfl, rfl, rfl, rfl, rfl, rfl, rfl, rfl, rfl, rfl, rfl, rfl, rfl, trivial⟩ rfl rfl (Nat.le_refl _))
          ·
            refine OpE.buildSlice (zc := #[.int .i64 0, .int .i64 0, .int .i64 0]) rfl hB rfl Tryz.underlying22 Tryz.sizeOf3 Tryz.zeroValue3 (by decide) (by decide) (by kernel_rfl) rfl rfl ?_
            have hh := hS51 
            rw [hF] at hh
            exact VA.to hh (by decide +kernel) (Le.mk hB [0] ⟨rfl, rfl, rfl, rfl, rfl, rfl, rfl, rfl, rfl, rfl, rfl, rfl, rfl, rfl, rfl, rfl, rfl, rfl, rfl, rfl, rfl, rfl, trivial⟩ rfl rfl (Nat.le_refl _))
          ·
            refine OpE.buildSlice (zc := #[.int .i64 0, .int .i64 0, .int .i64 0]) rfl hB rfl Tryz.underlying22 Tryz.sizeOf3 Tryz.zeroValue3 (by decide) (by decide) (by kernel_rfl) rfl rfl ?_
            have hh := hS52 
            rw [hF] at hh
            exact VA.to hh (by decide +kernel) (Le.mk hB [0] ⟨rfl, rfl, rfl, rfl, rfl, rfl, rfl, rfl, rfl, rfl, rfl, rfl, rfl, rfl, rfl, rfl, rfl, rfl, rfl, rfl, rfl, rfl, trivial⟩ rfl rfl (Nat.le_refl _))
          ·
            refine OpE.buildSlice (zc := #[.int .i64 0, .int .i64 0, .int .i64 0]) rfl hB rfl Tryz.underlying22 Tryz.sizeOf3 Tryz.zeroValue3 (by decide) (by decide) (by kernel_rfl) rfl rfl ?_
            have hh := hS53 
            rw [hF] at hh
            exact VA.to hh (by decide +kernel) (Le.mk hB [0] ⟨rfl, rfl, rfl, rfl, rfl, rfl, rfl, rfl, rfl, rfl, rfl, rfl, rfl, rfl, rfl, rfl, rfl, rfl, rfl, rfl, rfl, rfl, trivial⟩ rfl rfl (Nat.le_refl _))
        have hS59 : F 24 (lstB 67 [0, 1, 2, 3, 4, 5, 6, 7, 8, 9, 10, 11, 12, 13, 16, 17, 18, 19, 20, 21, 22, 23, 24, 27, 28, 29, 30, 31, 32, 34, 35, 36, 37, 38, 41, 42, 43, 44, 45, 46, 47, 48, 49]) ⟨[(0, sp p), (53, sp p), (64, sp p), (75, sp p), (82, sp p), (89, sp p), (48, (pO gr (0 + i * 5))), (49, (pO gr (0 + i * 5))), (50, (pO gr (0 + i * 5))), (51, (pO gr (0 + i * 5))), (52, (pO gr (0 + i * 5))), (57, avS (xO l i).key), (61, avS (xO l i).key), (68, avS (xO l i).product), (72, avS (xO l i).product), (79, avI (xO l i).count), (86, avI (xO l i).ready), (93, avI (xO l i).due), (97, avI (xO l i).due), (5, .v (.slice (some ⟨gr, 0, none⟩) l.length cap)), (80, (iO 3 [avI (xO l i).count, avI 0, avI 100001]))], [.box gr ⟨rowL l, 104, cap * 5⟩], k + 1 + 4 * q + 1 + 1⟩ := by
          rw [hF]
          refine VA.all (rs := [14, 25, 39, 50]) (by decide +kernel) (by decide) ?_
          refine ⟨⟨_, rfl, .inl rfl, ?_⟩, ⟨_, rfl, .inl rfl, ?_⟩, ⟨_, rfl, .inl rfl, ?_⟩, ⟨_, rfl, .inl rfl, ?_⟩, trivial⟩
          ·
            refine OpE.buildSlice (zc := #[.string ⟨#[]⟩, .string ⟨#[]⟩, .string ⟨#[]⟩, .string ⟨#[]⟩]) rfl hB rfl Tryz.underlying29 Tryz.sizeOf9 Tryz.zeroValue9 (by decide) (by decide) (by kernel_rfl) rfl rfl ?_
            have hh := hS48 
            rw [hF] at hh
            exact VA.to hh (by decide +kernel) (Le.mk hB [0] ⟨rfl, rfl, rfl, rfl, rfl, rfl, rfl, rfl, rfl, rfl, rfl, rfl, rfl, rfl, rfl, rfl, rfl, rfl, rfl, rfl, rfl, rfl, trivial⟩ rfl rfl (Nat.le_refl _))
          ·
            refine OpE.buildSlice (zc := #[.string ⟨#[]⟩, .string ⟨#[]⟩, .string ⟨#[]⟩, .string ⟨#[]⟩]) rfl hB rfl Tryz.underlying29 Tryz.sizeOf9 Tryz.zeroValue9 (by decide) (by decide) (by kernel_rfl) rfl rfl ?_
            have hh := hS51 
            rw [hF] at hh
            exact VA.to hh (by decide +kernel) (Le.mk hB [0] ⟨rfl, rfl, rfl, rfl, rfl, rfl, rfl, rfl, rfl, rfl, rfl, rfl, rfl, rfl, rfl, rfl, rfl, rfl, rfl, rfl, rfl, rfl, trivial⟩ rfl rfl (Nat.le_refl _))
          ·
            refine OpE.buildSlice (zc := #[.int .i64 0, .int .i64 0, .int .i64 0]) rfl hB rfl Tryz.underlying22 Tryz.sizeOf3 Tryz.zeroValue3 (by decide) (by decide) (by kernel_rfl) rfl rfl ?_
            have hh := hS54 
            rw [hF] at hh
            exact VA.to hh (by decide +kernel) (Le.mk hB [0] ⟨rfl, rfl, rfl, rfl, rfl, rfl, rfl, rfl, rfl, rfl, rfl, rfl, rfl, rfl, rfl, rfl, rfl, rfl, rfl, rfl, rfl, rfl, trivial⟩ rfl rfl (Nat.le_refl _))
          ·
            refine OpE.buildSlice (zc := #[.int .i64 0, .int .i64 0, .int .i64 0]) rfl hB rfl Tryz.underlying22 Tryz.sizeOf3 Tryz.zeroValue3 (by decide) (by decide) (by kernel_rfl) rfl rfl ?_
            have hh := hS55 
            rw [hF] at hh
            exact VA.to hh (by decide +kernel) (Le.mk hB [0] ⟨rfl, rfl, rfl, rfl, rfl, rfl, rfl, rfl, rfl, rfl, rfl, rfl, rfl, rfl, rfl, rfl, rfl, rfl, rfl, rfl, rfl, rfl, trivial⟩ rfl rfl (Nat.le_refl _))
        have hS60 : F 24 (lstB 67 [0, 1, 2, 3, 4, 5, 6, 7, 8, 9, 10, 11, 12, 13, 16, 17, 18, 19, 20, 21, 22, 23, 24, 27, 28, 29, 30, 31, 34, 35, 36, 37, 38, 39, 41, 42, 43, 44, 45, 46, 47, 48, 49]) ⟨[(0, sp p), (53, sp p), (64, sp p), (75, sp p), (82, sp p), (89, sp p), (48, (pO gr (0 + i * 5))), (49, (pO gr (0 + i * 5))), (50, (pO gr (0 + i * 5))), (51, (pO gr (0 + i * 5))), (52, (pO gr (0 + i * 5))), (57, avS (xO l i).key), (61, avS (xO l i).key), (68, avS (xO l i).product), (72, avS (xO l i).product), (79, avI (xO l i).count), (86, avI (xO l i).ready), (93, avI (xO l i).due), (97, avI (xO l i).due), (5, .v (.slice (some ⟨gr, 0, none⟩) l.length cap)), (87, (iO 3 [avI (xO l i).ready, avI (-1), avI 345686400000]))], [.box gr ⟨rowL l, 104, cap * 5⟩], k + 1 + 4 * q + 1 + 1⟩ := by
          rw [hF]
          refine VA.all (rs := [14, 25, 32, 50]) (by decide +kernel) (by decide) ?_
          refine ⟨⟨_, rfl, .inl rfl, ?_⟩, ⟨_, rfl, .inl rfl, ?_⟩, ⟨_, rfl, .inl rfl, ?_⟩, ⟨_, rfl, .inl rfl, ?_⟩, trivial⟩
          ·
            refine OpE.buildSlice (zc := #[.string ⟨#[]⟩, .string ⟨#[]⟩, .string ⟨#[]⟩, .string ⟨#[]⟩]) rfl hB rfl Tryz.underlying29 Tryz.sizeOf9 Tryz.zeroValue9 (by decide) (by decide) (by kernel_rfl) rfl rfl ?_
            have hh := hS49 
            rw [hF] at hh
            exact VA.to hh (by decide +kernel) (Le.mk hB [0] ⟨rfl, rfl, rfl, rfl, rfl, rfl, rfl, rfl, rfl, rfl, rfl, rfl, rfl, rfl, rfl, rfl, rfl, rfl, rfl, rfl, rfl, rfl, trivial⟩ rfl rfl (Nat.le_refl _))
          ·
            refine OpE.buildSlice (zc := #[.string ⟨#[]⟩, .string ⟨#[]⟩, .string ⟨#[]⟩, .string ⟨#[]⟩]) rfl hB rfl Tryz.underlying29 Tryz.sizeOf9 Tryz.zeroValue9 (by decide) (by decide) (by kernel_rfl) rfl rfl ?_
            have hh := hS52 
            rw [hF] at hh
            exact VA.to hh (by decide +kernel) (Le.mk hB [0] ⟨rfl, rfl, rfl, rfl, rfl, rfl, rfl, rfl, rfl, rfl, rfl, rfl, rfl, rfl, rfl, rfl, rfl, rfl, rfl, rfl, rfl, rfl, trivial⟩ rfl rfl (Nat.le_refl _))
          ·
            refine OpE.buildSlice (zc := #[.int .i64 0, .int .i64 0, .int .i64 0]) rfl hB rfl Tryz.underlying22 Tryz.sizeOf3 Tryz.zeroValue3 (by decide) (by decide) (by kernel_rfl) rfl rfl ?_
            have hh := hS54 
            rw [hF] at hh
            exact VA.to hh (by decide +kernel) (Le.mk hB [0] ⟨rfl, rfl, rfl, rfl, rfl, rfl, rfl, rfl, rfl, rfl, rfl, rfl, rfl, rfl, rfl, rfl, rfl, rfl, rfl, rfl, rfl, rfl, trivial⟩ rfl rfl (Nat.le_refl _))
          ·
            refine OpE.buildSlice (zc := #[.int .i64 0, .int .i64 0, .int .i64 0]) rfl hB rfl Tryz.underlying22 Tryz.sizeOf3 Tryz.zeroValue3 (by decide) (by decide) (by kernel_rfl) rfl rfl ?_
            have hh := hS56 
            rw [hF] at hh
            exact VA.to hh (by decide +kernel) (Le.mk hB [0] ⟨rfl, rfl, rfl, rfl, rfl, rfl, rfl, rfl, rfl, rfl, rfl, rfl, rfl, rfl, rfl, rfl, rfl, rfl, rfl, rfl, rfl, rfl, trivial⟩ rfl rfl (Nat.le_refl _))
        have hS61 : F 24 (lstB 67 [0, 1, 2, 3, 4, 5, 6, 7, 8, 9, 10, 11, 12, 13, 16, 17, 18, 19, 20, 21, 22, 23, 24, 27, 28, 29, 30, 31, 34, 35, 36, 37, 38, 41, 42, 43, 44, 45, 46, 47, 48, 49, 50]) ⟨[(0, sp p), (53, sp p), (64, sp p), (75, sp p), (82, sp p), (89, sp p), (48, (pO gr (0 + i * 5))), (49, (pO gr (0 + i * 5))), (50, (pO gr (0 + i * 5))), (51, (pO gr (0 + i * 5))), (52, (pO gr (0 + i * 5))), (57, avS (xO l i).key), (61, avS (xO l i).key), (68, avS (xO l i).product), (72, avS (xO l i).product), (79, avI (xO l i).count), (86, avI (xO l i).ready), (93, avI (xO l i).due), (97, avI (xO l i).due), (5, .v (.slice (some ⟨gr, 0, none⟩) l.length cap)), (98, (iO 3 [avI (xO l i).due, avI (xO l i).due, avI 345686400000]))], [.box gr ⟨rowL l, 104, cap * 5⟩], k + 1 + 4 * q + 1 + 1⟩ := by
          rw [hF]
          refine VA.all (rs := [14, 25, 32, 39]) (by decide +kernel) (by decide) ?_
          refine ⟨⟨_, rfl, .inl rfl, ?_⟩, ⟨_, rfl, .inl rfl, ?_⟩, ⟨_, rfl, .inl rfl, ?_⟩, ⟨_, rfl, .inl rfl, ?_⟩, trivial⟩
          ·
            refine OpE.buildSlice (zc := #[.string ⟨#[]⟩, .string ⟨#[]⟩, .string ⟨#[]⟩, .string ⟨#[]⟩]) rfl hB rfl Tryz.underlying29 Tryz.sizeOf9 Tryz.zeroValue9 (by decide) (by decide) (by kernel_rfl) rfl rfl ?_
            have hh := hS50 
            rw [hF] at hh
            exact VA.to hh (by decide +kernel) (Le.mk hB [0] ⟨rfl, rfl, rfl, rfl, rfl, rfl, rfl, rfl, rfl, rfl, rfl, rfl, rfl, rfl, rfl, rfl, rfl, rfl, rfl, rfl, rfl, rfl, trivial⟩ rfl rfl (Nat.le_refl _))
          ·
            refine OpE.buildSlice (zc := #[.string ⟨#[]⟩, .string ⟨#[]⟩, .string ⟨#[]⟩, .string ⟨#[]⟩]) rfl hB rfl Tryz.underlying29 Tryz.sizeOf9 Tryz.zeroValue9 (by decide) (by decide) (by kernel_rfl) rfl rfl ?_
            have hh := hS53 
            rw [hF] at hh
            exact VA.to hh (by decide +kernel) (Le.mk hB [0] ⟨rfl, rfl, rfl, rfl, rfl, rfl, rfl, rfl, rfl, rfl, rfl, rfl, rfl, rfl, rfl, rfl, rfl, rfl, rfl, rfl, rfl, rfl, trivial⟩ rfl rfl (Nat.le_refl _))
          ·
            refine OpE.buildSlice (zc := #[.int .i64 0, .int .i64 0, .int .i64 0]) rfl hB rfl Tryz.underlying22 Tryz.sizeOf3 Tryz.zeroValue3 (by decide) (by decide) (by kernel_rfl) rfl rfl ?_
            have hh := hS55 
            rw [hF] at hh
            exact VA.to hh (by decide +kernel) (Le.mk hB [0] ⟨rfl, rfl, rfl, rfl, rfl, rfl, rfl, rfl, rfl, rfl, rfl, rfl, rfl, rfl, rfl, rfl, rfl, rfl, rfl, rfl, rfl, rfl, trivial⟩ rfl rfl (Nat.le_refl _))
          ·
            refine OpE.buildSlice (zc := #[.int .i64 0, .int .i64 0, .int .i64 0]) rfl hB rfl Tryz.underlying22 Tryz.sizeOf3 Tryz.zeroValue3 (by decide) (by decide) (by kernel_rfl) rfl rfl ?_
            have hh := hS56 
            rw [hF] at hh
            exact VA.to hh (by decide +kernel) (Le.mk hB [0] ⟨rfl, rfl, rfl, rfl, rfl, rfl, rfl, rfl, rfl, rfl, rfl, rfl, rfl, rfl, rfl, rfl, rfl, rfl, rfl, rfl, rfl, rfl, trivial⟩ rfl rfl (Nat.le_refl _))
        have hS62 : F 25 (lstB 67 [0, 1, 2, 3, 4, 5, 6, 7, 8, 9, 10, 11, 12, 13, 16, 17, 18, 19, 20, 21, 22, 23, 24, 27, 28, 29, 30, 31, 34, 35, 36, 37, 38, 41, 42, 43, 44, 45, 46, 47, 48, 49]) ⟨[(0, sp p), (53, sp p), (64, sp p), (75, sp p), (82, sp p), (89, sp p), (48, (pO gr (0 + i * 5))), (49, (pO gr (0 + i * 5))), (50, (pO gr (0 + i * 5))), (51, (pO gr (0 + i * 5))), (52, (pO gr (0 + i * 5))), (57, avS (xO l i).key), (61, avS (xO l i).key), (68, avS (xO l i).product), (72, avS (xO l i).product), (79, avI (xO l i).count), (86, avI (xO l i).ready), (93, avI (xO l i).due), (97, avI (xO l i).due), (5, .v (.slice (some ⟨gr, 0, none⟩) l.length cap))], [.box gr ⟨rowL l, 104, cap * 5⟩], k + 1 + 4 * q + 1 + 1⟩ := by
          rw [hF]
          refine VA.all (rs := [14, 25, 32, 39, 50]) (by decide +kernel) (by decide) ?_
          refine ⟨⟨_, rfl, .inl rfl, ?_⟩, ⟨_, rfl, .inl rfl, ?_⟩, ⟨_, rfl, .inl rfl, ?_⟩, ⟨_, rfl, .inl rfl, ?_⟩, ⟨_, rfl, .inl rfl, ?_⟩, trivial⟩
          ·
            refine OpE.buildSlice (zc := #[.string ⟨#[]⟩, .string ⟨#[]⟩, .string ⟨#[]⟩, .string ⟨#[]⟩]) rfl hB rfl Tryz.underlying29 Tryz.sizeOf9 Tryz.zeroValue9 (by decide) (by decide) (by kernel_rfl) rfl rfl ?_
            have hh := hS57 
            rw [hF] at hh
            exact VA.to hh (by decide +kernel) (Le.mk hB [0] ⟨rfl, rfl, rfl, rfl, rfl, rfl, rfl, rfl, rfl, rfl, rfl, rfl, rfl, rfl, rfl, rfl, rfl, rfl, rfl, rfl, rfl, trivial⟩ rfl rfl (Nat.le_refl _))
          ·
            refine OpE.buildSlice (zc := #[.string ⟨#[]⟩, .string ⟨#[]⟩, .string ⟨#[]⟩, .string ⟨#[]⟩]) rfl hB rfl Tryz.underlying29 Tryz.sizeOf9 Tryz.zeroValue9 (by decide) (by decide) (by kernel_rfl) rfl rfl ?_
            have hh := hS58 
            rw [hF] at hh
            exact VA.to hh (by decide +kernel) (Le.mk hB [0] ⟨rfl, rfl, rfl, rfl, rfl, rfl, rfl, rfl, rfl, rfl, rfl, rfl, rfl, rfl, rfl, rfl, rfl, rfl, rfl, rfl, rfl, trivial⟩ rfl rfl (Nat.le_refl _))
          ·
            refine OpE.buildSlice (zc := #[.int .i64 0, .int .i64 0, .int .i64 0]) rfl hB rfl Tryz.underlying22 Tryz.sizeOf3 Tryz.zeroValue3 (by decide) (by decide) (by kernel_rfl) rfl rfl ?_
            have hh := hS59 
            rw [hF] at hh
            exact VA.to hh (by decide +kernel) (Le.mk hB [0] ⟨rfl, rfl, rfl, rfl, rfl, rfl, rfl, rfl, rfl, rfl, rfl, rfl, rfl, rfl, rfl, rfl, rfl, rfl, rfl, rfl, rfl, trivial⟩ rfl rfl (Nat.le_refl _))
          ·
            refine OpE.buildSlice (zc := #[.int .i64 0, .int .i64 0, .int .i64 0]) rfl hB rfl Tryz.underlying22 Tryz.sizeOf3 Tryz.zeroValue3 (by decide) (by decide) (by kernel_rfl) rfl rfl ?_
            have hh := hS60 
            rw [hF] at hh
            exact VA.to hh (by decide +kernel) (Le.mk hB [0] ⟨rfl, rfl, rfl, rfl, rfl, rfl, rfl, rfl, rfl, rfl, rfl, rfl, rfl, rfl, rfl, rfl, rfl, rfl, rfl, rfl, rfl, trivial⟩ rfl rfl (Nat.le_refl _))
          ·
            refine OpE.buildSlice (zc := #[.int .i64 0, .int .i64 0, .int .i64 0]) rfl hB rfl Tryz.underlying22 Tryz.sizeOf3 Tryz.zeroValue3 (by decide) (by decide) (by kernel_rfl) rfl rfl ?_
            have hh := hS61 
            rw [hF] at hh
            exact VA.to hh (by decide +kernel) (Le.mk hB [0] ⟨rfl, rfl, rfl, rfl, rfl, rfl, rfl, rfl, rfl, rfl, rfl, rfl, rfl, rfl, rfl, rfl, rfl, rfl, rfl, rfl, rfl, trivial⟩ rfl rfl (Nat.le_refl _))
        rw [hF]
        have hh := hS62 
        rw [hF] at hh
        exact VA.to hh (by decide +kernel) (Le.mk hB [0] ⟨rfl, rfl, rfl, rfl, rfl, rfl, rfl, rfl, rfl, rfl, rfl, rfl, rfl, rfl, rfl, rfl, rfl, rfl, rfl, rfl, trivial⟩ rfl rfl (Nat.le_refl _))
      · have aH3 := aH3b
        try simp only [qqT, qqF, qqN, qqM, qqL, qqE] at aH3
        refine VC.skip ?_
        refine VC.sr ?_
        refine VO.mv rfl rfl rfl rfl ?_
        refine VO.ma rfl rfl rfl rfl ?_
        refine VO.nil ?_
        refine VC.le _ (Le.rowT (t := 4) (i := 0) (n := l.length) (xs := l) hB hnew rfl rfl rfl) ?_
        refine VC.ret ?_
        exact Exists.intro _ (And.intro (RetV.one Tryz.results63 (ResV.tmp rfl)) (And.intro (by first | exact ⟨l, ⟨by omega, hok⟩, rfl⟩ | exact ⟨_, ⟨by simp; omega, by repeat (first | exact hok | refine OOk.set ?_ _ ⟨by first | exact hr63.1 | exact (hok.getD i).1, by first | exact hr74 | exact (hok.getD i).2.1, by first | exact hr63.2 | exact (hok.getD i).2.2⟩)⟩, rfl⟩) ((show k + 1 + 4 * q + 1 ≤ k + 100 by omega))))
    · replace aK2b : _ = false := aK2b
      have aK2 := aK2b
      try simp only [qqT, qqF, qqN, qqM, qqL, qqE] at aK2
      refine VO.opX rfl rfl rfl rfl aK2b ?_
      refine VO.val rfl rfl (OpV.pickF rfl rfl rfl rfl aK2b) ?_
      refine VO.nil ?_
      refine VC.condF rfl rfl ?_
      refine VC.skip ?_
      refine VC.sr ?_
      refine VO.mv rfl rfl rfl rfl ?_
      refine VO.ma rfl rfl rfl rfl ?_
      refine VO.nil ?_
      refine VC.le _ (Le.rowT (t := 4) (i := 0) (n := l.length) (xs := l) hB hnew rfl rfl rfl) ?_
      refine VC.ret ?_
      exact Exists.intro _ (And.intro (RetV.one Tryz.results63 (ResV.tmp rfl)) (And.intro (by first | exact ⟨l, ⟨by omega, hok⟩, rfl⟩ | exact ⟨_, ⟨by simp; omega, by repeat (first | exact hok | refine OOk.set ?_ _ ⟨by first | exact hr63.1 | exact (hok.getD i).1, by first | exact hr74 | exact (hok.getD i).2.1, by first | exact hr63.2 | exact (hok.getD i).2.2⟩)⟩, rfl⟩) ((show k + 1 + 4 * q ≤ k + 100 by omega))))
end Go.Proofs.YtdnlhdilpdeecaaGreatDoor
namespace Go.Proofs.YtdnlhdilpdeecaaGreatDoor
open Go.RowKit
set_option linter.unusedVariables false
set_option linter.unusedSimpArgs false
def AllP (Pr : ByteArray → Prop) : List AV → Prop
 | [] => True
 | x :: r => (∃ i : ByteArray, Pr i ∧ x = avS i) ∧ AllP Pr r
theorem AllP.nil {Pr : ByteArray → Prop} : AllP Pr [] := trivial
theorem AllP.cons {Pr : ByteArray → Prop} {i : ByteArray} {r : List AV} (h : Pr i) (hr : AllP Pr r) : AllP Pr (avS i :: r) := ⟨⟨i, h, rfl⟩, hr⟩
theorem AllP.get {Pr : ByteArray → Prop} : ∀ {l : List AV} {q : Nat}, AllP Pr l → q < l.length → ∃ i : ByteArray, Pr i ∧ l.getD q .any = avS i
 | [], q, _, h => by simp at h
 | x :: r, 0, h, _ => by simpa using h.1
 | x :: r, q + 1, h, hq => by simpa using AllP.get h.2 (by simpa using hq)
set_option maxRecDepth 100000 in
theorem some_P {p : Nat} {L : List Int} {n : Nat} {l : List AV} (Pr : ByteArray → Prop) (hn : l.length = n) (h0 : 0 < n) (h1 : n ≤ 1000) (hall : AllP Pr l) :
  SpecT Tryz.prog (TT p L) (fun b => b = p) 82 [sp p, .im n 1 fun j => l.getD j .any] 1 (fun y => ∃ r : ByteArray, Pr r ∧ y = avS r) := by
 refine SpecT.of_VC Tryz.func82 rfl Tryz.ntmps82 (Nle rfl) (low := (fun b => b ≤ p)) (fun w A k h => h.ok) fun w A k hk hB => ?_
 have hnew : True := trivial
 refine VC.sr ?_
 refine VO.ma rfl rfl rfl rfl ?_
 refine VO.nil ?_
 refine VC.sr ?_
 refine VO.mv rfl rfl rfl rfl ?_
 refine VO.mv rfl rfl rfl rfl ?_
 refine VO.mv rfl rfl rfl rfl ?_
 refine VO.val rfl rfl (OpV.len_im rfl Tryz.underlying29 rfl) ?_
 refine VO.op rfl (OpE.callT' (k) rfl rfl hB rfl Tryz.call80 rfl ((next_T (by omega))) (by omega) ?_)
 rintro _ ⟨r9, hr9, rfl⟩
 refine VO.val rfl rfl (OpV.indexAddr_1 rfl Tryz.underlying29 Tryz.sizeOf9 rfl rfl (Int.toNat_of_nonneg (by omega)).symm (by omega)) ?_
 refine VO.val rfl rfl (OpV.load_at rfl hB OutW.no Tryz.isAgg9 rfl rfl) ?_
 refine VO.ma rfl rfl rfl rfl ?_
 refine VO.nil ?_
 refine VC.ret ?_
 exact Exists.intro _ (And.intro (RetV.one Tryz.results82 (ResV.tmp rfl)) (And.intro (hall.get (by omega)) ((show k + 1 ≤ k + 1 by omega))))
end Go.Proofs.YtdnlhdilpdeecaaGreatDoor
